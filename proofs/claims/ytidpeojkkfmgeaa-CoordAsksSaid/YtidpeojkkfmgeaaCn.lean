/-
  law21: CoordAsks.
-/
import Derived.Test.YtidpeojkkfmgeaaCm
import Derived.Test.YtidpeojkkfmgeaaFb
namespace Go.Proofs.Ytidpeojkkfmgeaa
open Go.RowKit Go.Sort

def askM (nm : Nm) (f : Int) : Msg := ⟨8, f, 0, 1, 0, nm, 0, 0, 0, ⟨0, 0, 0, 0, 0, 0, 0, 0⟩, 0, false, 0, 0⟩
theorem bits_pow {f : Nat} (h : 1 ≤ f ∧ f ≤ 4) : bitsK (1 * 2 ^ f) 4 = [f] := by
  have : f = 1 ∨ f = 2 ∨ f = 3 ∨ f = 4 := by omega
  rcases this with rfl | rfl | rfl | rfl <;> decide
theorem asks_mail {ds : Dl} {nm : Nm} {f : Nat} {r : Out} (hm : machB ds = true) (hf : 1 ≤ f ∧ f ≤ 4) (h : HearP ds (askM nm (f : Int)) r) :
    ∃ ml, r = (ds, ml, [], []) ∧ ∀ ph, PhaseP ds nm ph → (ph = 0 → ml = [decM nm false f]) ∧ (ph = 3 → ml = [decM nm true f]) ∧ (ph ≠ 0 → ph ≠ 3 → ml = []) := by
  obtain ⟨-, hdr, hri⟩ := machB_iff.1 hm
  have hbits : bitsK (bitM (askM nm (f : Int))) 4 = [f] := bits_pow hf
  have ha : asksM (askM nm (f : Int)) := .inl rfl
  rcases h with ⟨k, q, hq, hn, rfl⟩ | ⟨hn, rfl⟩
  · have hp0 : PhaseP ds nm q.1.phase := .inl ⟨k, q, hq, hn, rfl⟩
    have hge := (drOk_iff.1 (hdr q (List.mem_of_getElem? hq))).2.1
    unfold hear1
    by_cases h3 : q.1.phase = 3
    · rw [if_pos ⟨h3, ha⟩, hbits]
      refine ⟨_, rfl, fun ph hp => ?_⟩
      have := phase_one hri hp hp0
      exact ⟨fun h => absurd h (by omega), fun _ => rfl, fun _ h => absurd h (by omega)⟩
    · rw [if_neg (fun h => h3 h.1), if_neg (fun h => absurd h.2.1 (by show (8 : Int) ≠ 5; decide)), if_neg (fun h => absurd h.2.1 (by show (8 : Int) ≠ 5; decide)), if_neg (fun h => absurd h.2.1 (by show (8 : Int) ≠ 7; decide))]
      refine ⟨_, rfl, fun ph hp => ?_⟩
      have := phase_one hri hp hp0
      exact ⟨fun h => absurd h (by omega), fun h => absurd h (by omega), fun _ _ => rfl⟩
  · unfold hear0
    rw [if_pos ha, hbits]
    refine ⟨_, rfl, fun ph hp => ?_⟩
    have := phase_one hri hp (.inr ⟨rfl, hn⟩)
    exact ⟨fun _ => rfl, fun h => absurd h (by omega), fun h => absurd this h⟩
set_option maxHeartbeats 2000000 in
theorem asks21_any (va : Option Addr) (vc : Nat) (cs : List Value) (ds : Dl) (nm : Nm) (f : Int) (w : World) (hv : RowC drS cs 0 w.heap.size w (.slice va ds.length vc) ds) (hb : ∀ q ∈ ds, q.1.shards ≤ 9223372036854775807) :
    Calls Try.prog 3 #[.agg #[.slice va ds.length vc], .agg nm.cells, .int .i64 f] w fun e w' => e = .returned (.bool true) ∧ Below w.heap.size w w' := by
  obtain ⟨E, hE, hE0⟩ := machE ds
  have M := Mem.start w
  refine calls_enter Try.func3 rfl 112 rfl rfl ?_; intro a S
  refine nxD ?_
  refine st_box S M rfl rfl rfl #[_] rfl ?_; clear S M a; intro a w1 bC S M hB
  refine st_box S M rfl rfl rfl #[_, _, _] rfl ?_; clear S M a; intro a w2 bX S M hB
  refine st_go [1] S rfl (by kernel_rfl) ?_; clear S a; intro a S
  refine nxC ?_
  refine wp_seq ?_
  refine nxD ?_
  refine st_y S rfl rfl rfl (y_loadAgg (cs := [_]) S (by kernel_rfl) rfl rfl (M.cellsAt (k := 1) 1 rfl rfl)) ?_; clear S a; intro a S
  refine st_call (xs := [(Operand.tmp 11)]) S (enters_of Try.func6 (by decide) rfl) rfl rfl rfl (great21_any va vc cs ds _ (M.rowsW hv)) ?_
  rintro _ w3 ⟨b, rfl, hK⟩; refine ⟨_, rfl, ?_⟩; clear S a; intro a S; replace M := M.grow hK
  refine st_go [1] S rfl (by kernel_rfl) ?_; clear S a; intro a S
  refine st_if (t := 13) S rfl ?_ ?_
  · clear S; intro h13 S
    refine st_go [0, 0, 0, 1] S rfl (by kernel_rfl) ?_; clear S a; intro a S
    refine nxC ?_
    refine st_condT S rfl ?_
    refine nxD ?_
    refine st_call (xs := []) S (enters_of Try.func8 (by decide) rfl) rfl rfl rfl (wakes21_any _) ?_
    rintro _ w4 ⟨rfl, hK⟩; refine ⟨_, rfl, ?_⟩; clear S a; intro a S; replace M := M.grow hK
    refine st_go [1] S rfl (by kernel_rfl) ?_; clear S a; intro a S
    refine nxC ?_
    refine wp_ret ?_
    refine then_ret ?_
    refine end_one S rfl (res_tmp rfl) ?_
    exact ⟨rfl, M.below⟩
  clear S; intro h13 S
  refine st_y S rfl rfl rfl (y_loadAgg (cs := [_]) S (by kernel_rfl) rfl rfl (M.cellsAt (k := 1) 1 rfl rfl)) ?_; clear S a; intro a S
  refine st_call (xs := [(Operand.tmp 14)]) S (enters_of Try.func7 (by decide) rfl) rfl rfl rfl (checkE_any va vc cs ds hE _ (M.rowsW hv) hb) ?_
  rintro _ w5 ⟨rfl, hK⟩; refine ⟨_, rfl, ?_⟩; clear S a; intro a S; replace M := M.grow hK
  refine st_go [1, 1] S rfl (by kernel_rfl) ?_; clear S a; intro a S
  refine nxC ?_
  refine st_if (t := 17) S rfl ?_ ?_
  · clear S; intro h17 S
    refine st_condT S rfl ?_
    refine nxD ?_
    refine st_call (xs := []) S (enters_of Try.func8 (by decide) rfl) rfl rfl rfl (wakes21_any _) ?_
    rintro _ w6 ⟨rfl, hK⟩; refine ⟨_, rfl, ?_⟩; clear S a; intro a S; replace M := M.grow hK
    refine st_go [1] S rfl (by kernel_rfl) ?_; clear S a; intro a S
    refine nxC ?_
    refine wp_ret ?_
    refine then_ret ?_
    refine end_one S rfl (res_tmp rfl) ?_
    exact ⟨rfl, M.below⟩
  clear S; intro h17 S
  refine st_condF S rfl ?_
  refine wp_skip ?_
  refine then_normal ?_
  refine wp_seq ?_
  have hmac : machB ds = true := by
    rcases hE0 with ⟨-, h⟩ | ⟨h, -⟩
    · exact h
    · exfalso; omega
  refine wp_region_lit ?_
  refine st_go [1] S rfl (by kernel_rfl) ?_; clear S a; intro a S
  refine st_y S rfl rfl rfl (y_loadAgg (cs := [_, _, _]) S (by kernel_rfl) rfl rfl (M.cellsAt (k := 3) 0 rfl rfl)) ?_; clear S a; intro a S
  refine st_y S rfl rfl rfl (y_build (ps := [(0, (Operand.const (Value.int IntKind.i8 8))), (1, (Operand.tmp 19)), (3, (Operand.const (Value.int IntKind.i64 1))), (5, (Operand.tmp 20))]) (pl := [(0, 1), (1, 1), (2, 1), (3, 1), (4, 1), (5, 3), (8, 1), (9, 1), (10, 1), (11, 8), (19, 1), (20, 1), (21, 1), (22, 1), (23, 1)]) (z := [.int .i8 0, .int .i64 0, .int .i64 0, .int .i64 0, .int .i64 0, .int .i64 0, .int .i64 0, .int .i64 0, .int .i64 0, .int .i8 0, .int .i64 0, .int .u8 0, .int .u8 0, .int .u8 0, .int .u8 0, .int .u8 0, .int .u8 0, .int .u8 0, .int .u8 0, .int .i64 0, .bool false, .int .i64 0, .int .i64 0, .slice none 0 0]) (cs := [_, _, _, _, _, _, _, _, _, _, _, _, _, _, _, _, _, _, _, _, _, _, _, _]) S (by kernel_rfl) rfl (rfl)) ?_; clear S a; intro a S
  refine st_alloc S M rfl rfl #[.int .i8 0, .int .i64 0, .int .i64 0, .int .i64 0, .int .i64 0, .int .i64 0, .int .i64 0, .int .i64 0, .int .i64 0, .int .i8 0, .int .i64 0, .int .u8 0, .int .u8 0, .int .u8 0, .int .u8 0, .int .u8 0, .int .u8 0, .int .u8 0, .int .u8 0, .int .i64 0, .bool false, .int .i64 0, .int .i64 0, .slice none 0 0] (by kernel_rfl) ?_; clear S M a; intro a w7 bY S M hB
  refine st_store (sz := 24) (us := [_, _, _, _, _, _, _, _, _, _, _, _, _, _, _, _, _, _, _, _, _, _, _, _]) S M 0 rfl (by kernel_rfl) rfl rfl rfl rfl rfl rfl (by first | decide | (simp; done) | (simp; omega)) ?_; clear M; intro w8 M
  simp only [putL, List.set_cons_zero, List.set_cons_succ, Nat.reduceAdd] at M
  refine nxA ?_
  refine st_y S rfl rfl rfl (y_loadAgg (cs := [_]) S (by kernel_rfl) rfl rfl (M.cellsAt (k := 1) 2 rfl rfl)) ?_; clear S a; intro a S
  refine st_y S rfl rfl rfl (y_loadAgg (cs := [_, _, _, _, _, _, _, _, _, _, _, _, _, _, _, _, _, _, _, _, _, _, _, _]) S (by kernel_rfl) rfl rfl (M.cellsAt (k := 24) 0 rfl rfl)) ?_; clear S a; intro a S
  refine st_call (xs := [(Operand.tmp 23), (Operand.tmp 24)]) S (enters_of Try.func9 (by decide) rfl) rfl rfl rfl (hearC_any va vc cs ds (askM nm f) _ [] _ (M.rowsW hv) hb (Rd.nil _ _ _ _)) ?_
  rintro _ w9 ⟨er, r, hR, hc⟩
  obtain ⟨cv, mv, kv, ev, rfl, hK, hO⟩ := hR
  obtain ⟨la, lc, ma, mc, ka, kc, ea, ec, rfl, rfl, rfl, rfl⟩ := hO.form
  obtain ⟨c1, c2, c3, c4, hO⟩ := hO.cells
  refine ⟨_, rfl, ?_⟩; clear S a; intro a S; replace M := M.out hK hO
  refine st_go [1, 1, 1, 1] S rfl (by kernel_rfl) ?_; clear S a; intro a S
  refine st_alloc S M rfl rfl #[.slice none 0 0] (by kernel_rfl) ?_; clear S M a; intro a w10 bD S M hB
  refine st_alloc S M rfl rfl #[.slice none 0 0, .slice none 0 0, .slice none 0 0] (by kernel_rfl) ?_; clear S M a; intro a w11 bT S M hB
  refine st_store (sz := 1) (us := [_]) S M 1 rfl (by kernel_rfl) rfl rfl rfl rfl rfl rfl (by first | decide | (simp; done) | (simp; omega)) ?_; clear M; intro w12 M
  simp only [putL, List.set_cons_zero, List.set_cons_succ, Nat.reduceAdd] at M
  refine st_store (sz := 3) (us := [_, _, _]) S M 0 rfl (by kernel_rfl) rfl rfl rfl rfl rfl rfl (by first | decide | (simp; done) | (simp; omega)) ?_; clear M; intro w13 M
  simp only [putL, List.set_cons_zero, List.set_cons_succ, Nat.reduceAdd] at M
  refine st_go [1] S rfl (by kernel_rfl) ?_; clear S a; intro a S
  replace S := S.sub [(0, _), (1, _), (2, _), (3, _), (4, _), (6, _), (17, _), (7, _), (8, _), (9, _), (10, _)] rfl
  refine nxC ?_
  refine wp_seq ?_
  refine nxD ?_
  refine st_go [1, 1] S rfl (by kernel_rfl) ?_; clear S a; intro a S
  refine nxC ?_
  refine st_if (t := 30) S rfl ?_ ?_
  · clear S; intro h30 S
    refine st_condT S rfl ?_
    refine wp_seq ?_
    have hmay : (askM nm f).may [] = false := by
      rcases hc with ⟨h, -⟩ | ⟨-, h, -⟩
      · exfalso; omega
      · cases hm : (askM nm f).may []
        · rfl
        · exact absurd ⟨hmac, hm, .inr (.inr rfl)⟩ h
    refine wp_region_lit ?_
    refine st_y S rfl rfl rfl (y_loadAgg (cs := [_, _, _, _, _, _, _, _, _, _, _, _, _, _, _, _, _, _, _, _, _, _, _, _]) S (by kernel_rfl) rfl rfl (M.cellsAt (k := 24) 3 rfl rfl)) ?_; clear S a; intro a S
    refine st_call (xs := [(Operand.tmp 31)]) S (enters_of Try.func10 (by decide) rfl) rfl rfl rfl (fMay_any (askM nm f) _ _ _ [] _ (Rd.nil _ _ _ _)) ?_
    rintro _ w14 ⟨rfl, hK⟩; refine ⟨_, rfl, ?_⟩; clear S a; intro a S; replace M := M.grow hK
    refine st_go [1, 1] S rfl (by kernel_rfl) ?_; clear S a; intro a S
    refine st_tils (t := 34) S rfl ?_ ?_
    · clear S; intro h34 S
      exfalso; rw [hmay] at h34; cases h34
    clear S; intro h34 S
    refine st_call (xs := []) S (enters_of Try.func8 (by decide) rfl) rfl rfl rfl (wakes21_any _) ?_
    rintro _ w15 ⟨rfl, hK⟩; refine ⟨_, rfl, ?_⟩; clear S a; intro a S; replace M := M.grow hK
    refine st_go [1, 1] S rfl (by kernel_rfl) ?_; clear S a; intro a S
    refine nxC ?_
    refine wp_ret ?_
    refine then_ret ?_
    refine end_one S rfl (res_tmp rfl) ?_
    exact ⟨rfl, M.below⟩
  clear S; intro h30 S
  refine st_condF S rfl ?_
  refine wp_skip ?_
  refine then_normal ?_
  refine wp_seq ?_
  refine wp_seq ?_
  obtain ⟨ml, hml, hmr⟩ : ∃ ml, r = (ds, ml, [], []) ∧ ((1 ≤ f ∧ f ≤ 4) ∧ ∀ ph, PhaseP ds nm ph → (ph = 0 → ml = [decM nm false f.toNat]) ∧ (ph = 3 → ml = [decM nm true f.toNat]) ∧ (ph ≠ 0 → ph ≠ 3 → ml = [])) := by
    rcases hc with ⟨-, -, h1, h2⟩ | ⟨h, -⟩
    · have hf := may_from h1.1 (.inr (.inr rfl))
      obtain ⟨g, rfl⟩ := Int.eq_ofNat_of_zero_le (show 0 ≤ f by have : (askM nm f).frm = f := rfl; omega)
      obtain ⟨ml, e, h3⟩ := asks_mail hmac (by have : (askM nm (g : Int)).frm = (g : Int) := rfl; omega) h2
      exact ⟨ml, e, by have : (askM nm (g : Int)).frm = (g : Int) := rfl; omega, h3⟩
    · exfalso; omega
  subst hml
  obtain ⟨hf, hmr⟩ := hmr
  refine wp_region_lit ?_
  refine st_y S rfl rfl rfl (y_loadAgg (cs := [_]) S (by kernel_rfl) rfl rfl (M.cellsAt (k := 1) 1 rfl rfl)) ?_; clear S a; intro a S
  refine st_y S rfl rfl rfl (y_loadAgg (cs := [_]) S (by kernel_rfl) rfl rfl (M.cellsAt (k := 1) 5 rfl rfl)) ?_; clear S a; intro a S
  refine st_call (xs := [(Operand.tmp 37), (Operand.tmp 38)]) S (enters_of Try.func11 (by decide) rfl) rfl rfl rfl (sameC_any la va lc vc c1 cs ds ds _ (M.outAt 2 rfl).1 (M.rowsW hv)) ?_
  rintro _ w16 ⟨b2, rfl, hK, hb2⟩; obtain rfl := hb2.2 rfl; refine ⟨_, rfl, ?_⟩; clear S a; intro a S; replace M := M.grow hK
  refine st_go [1, 1] S rfl (by kernel_rfl) ?_; clear S a; intro a S
  refine st_if (t := 41) S rfl ?_ ?_
  · clear S; intro h41 S
    exfalso; cases h41
  clear S; intro h41 S
  refine st_run [2, 1] S M rfl (by kernel_rfl) ?_; clear S a; intro a S
  refine st_y S rfl rfl rfl (y_lenS (E := 97) S rfl (by kernel_rfl)) ?_; clear S a; intro a S
  refine st_run [3, 1] S M rfl (by kernel_rfl) ?_; clear S a; intro a S
  refine st_y S rfl rfl rfl (y_lenS (E := 66) S rfl (by kernel_rfl)) ?_; clear S a; intro a S
  (first | refine st_y S rfl rfl rfl (y_addN S rfl rfl (by omega)) ?_ | refine st_y S rfl rfl rfl (y_int S rfl rfl rfl) ?_); clear S a; intro a S
  refine st_go [1, 1] S rfl (by kernel_rfl) ?_; clear S a; intro a S
  replace S := S.sub [(0, _), (1, _), (2, _), (3, _), (4, _), (6, _), (17, _), (7, _), (8, _), (9, _), (10, _), (30, _), (50, _)] rfl
  refine nxC ?_
  refine st_if (t := 50) S rfl ?_ ?_
  · clear S; intro h50 S
    exfalso; change (0 : Int) < IntKind.i64.wrap ((0 : Int) + 0) at h50; revert h50; decide
  clear S; intro h50 S
  refine st_condF S rfl ?_
  refine wp_skip ?_
  refine then_normal ?_
  refine wp_seq ?_
  refine nxD ?_
  refine st_y S rfl rfl rfl (y_loadAgg (cs := [_]) S (by kernel_rfl) rfl rfl (M.cellsAt (k := 1) 5 rfl rfl)) ?_; clear S a; intro a S
  refine st_y S rfl rfl rfl (y_loadAgg (cs := [_, _, _]) S (by kernel_rfl) rfl rfl (M.cellsAt (k := 3) 4 rfl rfl)) ?_; clear S a; intro a S
  refine st_call (xs := [(Operand.tmp 51), (Operand.tmp 52)]) S (enters_of Try.func12 (by decide) rfl) rfl rfl rfl (phase_any va vc cs ds nm _ (M.rowsW hv)) ?_
  rintro _ w17 ⟨ph, rfl, hK, hph⟩; have hmp := hmr ph hph; refine ⟨_, rfl, ?_⟩; clear S a; intro a S; replace M := M.grow hK
  refine nxC ?_
  refine wp_block ?_
  refine nxD ?_
  refine st_go [1, 1] S rfl (by kernel_rfl) ?_; clear S a; intro a S
  refine nxC ?_
  refine st_if (t := 54) S rfl ?_ ?_
  · clear S; intro h54 S
    refine st_condT S rfl ?_
    refine wp_seq ?_
    obtain rfl := hmp.1 (by omega)
    obtain ⟨a1, b1, hr1, -⟩ := (M.outAt 2 rfl).2.1.sl (i := 0) rfl
    refine wp_region_lit ?_
    refine st_run [1, 1] S M rfl (by kernel_rfl) ?_; clear S a; intro a S
    refine st_y S rfl rfl rfl (y_lenS (E := 36) S rfl (by kernel_rfl)) ?_; clear S a; intro a S
    refine st_go [1, 1] S rfl (by kernel_rfl) ?_; clear S a; intro a S
    refine st_fi (t := 60) S rfl ?_ ?_
    · clear S; intro h60 S
      exfalso; simp at h60
    clear S; intro h60 S
    refine st_run [1, 1] S M rfl (by kernel_rfl) ?_; clear S a; intro a S
    refine st_y S rfl rfl rfl (y_indexR (e := 36) (sz := 24) S (by kernel_rfl) rfl ((M.outAt 2 rfl).2.1.1) rfl (by first | omega | (simp; done) | (simp; omega))) ?_; clear S a; intro a S
    refine st_go [3] S rfl (by kernel_rfl) ?_; clear S a; intro a S
    refine st_y S rfl rfl rfl (y_load S (by kernel_rfl) rfl ((M.outAt 2 rfl).2.1.1.at_.row (i := 0) hr1 rfl 2 (show 2 < 24 by decide))) ?_; clear S a; intro a S
    refine st_go [1, 1, 1, 1] S rfl (by kernel_rfl) ?_; clear S a; intro a S
    refine st_fi (t := 69) S rfl ?_ ?_
    · clear S; intro h69 S
      exfalso; simp only [decM] at h69; omega
    clear S; intro h69 S
    refine st_run [1, 1] S M rfl (by kernel_rfl) ?_; clear S a; intro a S
    refine st_y S rfl rfl rfl (y_indexR (e := 36) (sz := 24) S (by kernel_rfl) rfl ((M.outAt 2 rfl).2.1.1) rfl (by first | omega | (simp; done) | (simp; omega))) ?_; clear S a; intro a S
    refine st_go [21] S rfl (by kernel_rfl) ?_; clear S a; intro a S
    refine st_y S rfl rfl rfl (y_load S (by kernel_rfl) rfl ((M.outAt 2 rfl).2.1.1.at_.row (i := 0) hr1 rfl 20 (show 20 < 24 by decide))) ?_; clear S a; intro a S
    refine st_go [1, 1, 1] S rfl (by kernel_rfl) ?_; clear S a; intro a S
    refine st_fi (t := 77) S rfl ?_ ?_
    · clear S; intro h77 S
      exfalso; simp [decM] at h77
    clear S; intro h77 S
    refine st_call (xs := []) S (enters_of Try.func8 (by decide) rfl) rfl rfl rfl (wakes21_any _) ?_
    rintro _ w18 ⟨rfl, hK⟩; refine ⟨_, rfl, ?_⟩; clear S a; intro a S; replace M := M.grow hK
    refine st_go [1, 1] S rfl (by kernel_rfl) ?_; clear S a; intro a S
    replace S := S.sub [(0, _), (1, _), (2, _), (3, _), (4, _), (17, _), (7, _), (8, _), (9, _), (10, _), (30, _), (50, _), (53, _), (54, _), (6, _)] rfl
    refine nxC ?_
    refine wp_ret ?_
    refine block_ret ?_
    refine then_ret ?_
    refine end_one S rfl (res_tmp rfl) ?_
    exact ⟨rfl, M.below⟩
  clear S; intro h54 S
  refine st_condF S rfl ?_
  refine nxD ?_
  refine st_go [1, 1] S rfl (by kernel_rfl) ?_; clear S a; intro a S
  refine nxC ?_
  refine st_fi (t := 80) S rfl ?_ ?_
  · clear S; intro h80 S
    refine st_condF S rfl ?_
    refine wp_skip ?_
    refine block_normal ?_
    refine then_normal ?_
    refine wp_seq ?_
    obtain rfl := hmp.2.2 (by omega) (by omega)
    refine wp_region_lit ?_
    refine st_run [1, 1] S M rfl (by kernel_rfl) ?_; clear S a; intro a S
    refine st_y S rfl rfl rfl (y_lenS (E := 36) S rfl (by kernel_rfl)) ?_; clear S a; intro a S
    refine st_go [1, 1] S rfl (by kernel_rfl) ?_; clear S a; intro a S
    refine st_fi (t := 109) S rfl ?_ ?_
    · clear S; intro h109 S
      exfalso; simp at h109
    clear S; intro h109 S
    refine st_call (xs := []) S (enters_of Try.func8 (by decide) rfl) rfl rfl rfl (wakes21_any _) ?_
    rintro _ w20 ⟨rfl, hK⟩; refine ⟨_, rfl, ?_⟩; clear S a; intro a S; replace M := M.grow hK
    refine st_go [1, 1] S rfl (by kernel_rfl) ?_; clear S a; intro a S
    refine nxC ?_
    refine wp_ret ?_
    refine end_one S rfl (res_tmp rfl) ?_
    exact ⟨rfl, M.below⟩
  clear S; intro h80 S
  refine st_condT S rfl ?_
  refine wp_seq ?_
  obtain rfl := hmp.2.1 (by omega)
  obtain ⟨a1, b1, hr1, -⟩ := (M.outAt 2 rfl).2.1.sl (i := 0) rfl
  refine wp_region_lit ?_
  refine st_run [1, 1] S M rfl (by kernel_rfl) ?_; clear S a; intro a S
  refine st_y S rfl rfl rfl (y_lenS (E := 36) S rfl (by kernel_rfl)) ?_; clear S a; intro a S
  refine st_go [1, 1] S rfl (by kernel_rfl) ?_; clear S a; intro a S
  refine st_fi (t := 86) S rfl ?_ ?_
  · clear S; intro h86 S
    exfalso; simp at h86
  clear S; intro h86 S
  refine st_run [1, 1] S M rfl (by kernel_rfl) ?_; clear S a; intro a S
  refine st_y S rfl rfl rfl (y_indexR (e := 36) (sz := 24) S (by kernel_rfl) rfl ((M.outAt 2 rfl).2.1.1) rfl (by first | omega | (simp; done) | (simp; omega))) ?_; clear S a; intro a S
  refine st_go [3] S rfl (by kernel_rfl) ?_; clear S a; intro a S
  refine st_y S rfl rfl rfl (y_load S (by kernel_rfl) rfl ((M.outAt 2 rfl).2.1.1.at_.row (i := 0) hr1 rfl 2 (show 2 < 24 by decide))) ?_; clear S a; intro a S
  refine st_go [1, 1, 1, 1] S rfl (by kernel_rfl) ?_; clear S a; intro a S
  refine st_fi (t := 95) S rfl ?_ ?_
  · clear S; intro h95 S
    exfalso; simp only [decM] at h95; omega
  clear S; intro h95 S
  refine st_run [1, 1] S M rfl (by kernel_rfl) ?_; clear S a; intro a S
  refine st_y S rfl rfl rfl (y_indexR (e := 36) (sz := 24) S (by kernel_rfl) rfl ((M.outAt 2 rfl).2.1.1) rfl (by first | omega | (simp; done) | (simp; omega))) ?_; clear S a; intro a S
  refine st_go [21] S rfl (by kernel_rfl) ?_; clear S a; intro a S
  refine st_y S rfl rfl rfl (y_load S (by kernel_rfl) rfl ((M.outAt 2 rfl).2.1.1.at_.row (i := 0) hr1 rfl 20 (show 20 < 24 by decide))) ?_; clear S a; intro a S
  refine st_go [1, 1] S rfl (by kernel_rfl) ?_; clear S a; intro a S
  refine st_fi (t := 102) S rfl ?_ ?_
  · clear S; intro h102 S
    exfalso; simp [decM] at h102
  clear S; intro h102 S
  refine st_call (xs := []) S (enters_of Try.func8 (by decide) rfl) rfl rfl rfl (wakes21_any _) ?_
  rintro _ w19 ⟨rfl, hK⟩; refine ⟨_, rfl, ?_⟩; clear S a; intro a S; replace M := M.grow hK
  refine st_go [1, 1] S rfl (by kernel_rfl) ?_; clear S a; intro a S
  replace S := S.sub [(0, _), (1, _), (2, _), (3, _), (4, _), (17, _), (7, _), (8, _), (9, _), (10, _), (30, _), (50, _), (53, _), (54, _), (80, _), (6, _)] rfl
  refine nxC ?_
  refine wp_ret ?_
  refine block_ret ?_
  refine then_ret ?_
  refine end_one S rfl (res_tmp rfl) ?_
  exact ⟨rfl, M.below⟩

end Go.Proofs.Ytidpeojkkfmgeaa
