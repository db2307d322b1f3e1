/-
  law06: goes over none; wakes.
-/
import Derived.Test.YtafejnbfgkkjkaaJh
namespace Go.Proofs.Ytafejnbfgkkjkaa
open Go.RowKit Go.Sort

abbrev zSt : List Value := [.int .i64 0, .int .i64 0, .slice none 0 0, .slice none 0 0, .int .i64 0]
theorem each_nil (tail : Int) (w : World) : Calls Try.prog 26 #[.pointer none, .int .i64 tail] w fun e w' => ∃ b, e = .returned (.func (.func 44) #[] #[.pointer (some ⟨b, 0, none⟩)]) ∧ Mem w w' [.blk b zSt.toArray 63] := by
  have M := Mem.start w
  refine calls_enter Try.func26 rfl 14 rfl rfl ?_; intro a S
  refine nxD ?_
  refine st_go [1] S rfl (by kernel_rfl) ?_; clear S a; intro a S
  refine nxA ?_
  refine st_go [1, 1] S rfl (by kernel_rfl) ?_; clear S a; intro a S
  refine st_call (xs := [(Operand.tmp 8), (Operand.tmp 9)]) S (enters_of Try.func23 (by decide) rfl) rfl rfl rfl (scan_nil tail _) ?_
  rintro _ w1 ⟨rfl, hK⟩; refine ⟨_, rfl, ?_⟩; clear S a; intro a S; replace M := M.grow hK
  refine st_go [1, 1, 1] S rfl (by kernel_rfl) ?_; clear S a; intro a S
  refine st_alloc S M rfl rfl #[.int .i64 0, .int .i64 0, .slice none 0 0, .slice none 0 0, .int .i64 0] (by kernel_rfl) ?_; clear S M a; intro a w2 bB S M hB
  refine st_store (sz := 5) (us := [_, _, _, _, _]) S M 0 rfl (by kernel_rfl) rfl rfl rfl rfl rfl rfl (by first | decide | (simp; done) | (simp; omega)) ?_; clear M; intro w3 M
  simp only [putL, List.set_cons_zero, List.set_cons_succ, Nat.reduceAdd] at M
  refine st_go [1] S rfl (by kernel_rfl) ?_; clear S a; intro a S
  refine nxA ?_
  refine st_y S rfl rfl rfl (y_makeFunc (fs := []) (cs := [(Operand.tmp 5)]) S rfl rfl) ?_; clear S a; intro a S
  refine st_go [1] S rfl (by kernel_rfl) ?_; clear S a; intro a S
  refine nxC ?_
  refine wp_ret ?_
  refine end_one S rfl (res_tmp rfl) ?_
  exact ⟨bB, rfl, M⟩
def encN2 (x : Int × Value) : List Value := [.int .i64 x.1, x.2]
theorem each1_gen (b : Nat) : Gen Try.prog 44 [.pointer (some ⟨b, 0, none⟩)] encN2 [] (fun W => Blk W b zSt.toArray 63) := by
  intro ll I w hC hg hY h0
  have M := Mem.start w
  refine calls_enterG Try.func44 rfl 21 rfl rfl ?_; intro a S
  refine wpIn_seq ?_
  refine wpI_region (by kernel_rfl) (by rintro _ _ ⟨⟨_, h⟩, -⟩; cases h) ?_
  refine st_go [4] S rfl (by kernel_rfl) ?_; clear S a; intro a S
  refine st_y S rfl rfl rfl (y_load S (by kernel_rfl) rfl ((hC _ _ h0).cells 3)) ?_; clear S a; intro a S
  refine st_y S rfl rfl rfl (y_lenS (E := 67) S rfl (by kernel_rfl)) ?_; clear S a; intro a S
  refine st_go [1] S rfl (by kernel_rfl) ?_; clear S a; intro a S
  refine nxC ?_
  refine wpIn_block ?_
  refine wpI_loop_g (fun m a w' => m = 0 ∧ Sees 21 a [(0, .func (.yield ll) #[] #[]), (1, .pointer (some ⟨b, 0, none⟩)), (6, .slice none 0 0), (7, .int .i64 0), (8, .int .i64 0)] ∧ I [] w') (0) ?_ ?_
  · skip
    exact ⟨rfl, S.sub _ rfl, h0⟩
  clear S M a; intro m a wl
  rintro ⟨rfl, S, hI⟩
  have M := Mem.start wl
  refine wpIn_seq ?_
  refine wpI_region (by kernel_rfl) (by rintro _ _ ⟨⟨_, h⟩, -⟩; cases h) ?_
  refine st_go [1] S rfl (by kernel_rfl) ?_; clear S a; intro a S
  refine nxC ?_
  refine wpIn_seq ?_
  refine st_if (t := 9) S rfl ?_ ?_
  · clear S; intro h9 S
    exfalso; omega
  clear S; intro h9 S
  refine stI_condF S rfl ?_
  refine wpIn_exit ?_
  refine then_exit ?_
  refine then_exit ?_
  refine block_hit ?_
  refine end_noneN S rfl ?_
  exact ⟨⟨_, rfl⟩, hI⟩
theorem goes_nil (w : World) : Calls Try.prog 17 #[.pointer none, .int .i64 1, .slice none 0 0, .int .i64 0] w fun e w' => e = .returned (.bool true) ∧ Below w.heap.size w w' := by
  have M := Mem.start w
  refine calls_enterM Try.func17 rfl 59 rfl rfl ?_; intro a S
  refine nxD ?_
  refine st_box S M rfl rfl rfl #[_] rfl ?_; clear S M a; intro a w1 bX S M hB
  refine st_box S M rfl rfl rfl #[_] rfl ?_; clear S M a; intro a w2 bY S M hB
  refine st_alloc S M rfl rfl #[.bool false] (by kernel_rfl) ?_; clear S M a; intro a w3 bR S M hB
  refine nxA ?_
  refine st_go [1, 1] S rfl (by kernel_rfl) ?_; clear S a; intro a S
  refine st_call (xs := [(Operand.tmp 13), (Operand.tmp 14)]) S (enters_of Try.func26 (by decide) rfl) rfl rfl rfl (each_nil 1 _) ?_
  rintro _ w4 ⟨bE, rfl, M1⟩; refine ⟨_, rfl, ?_⟩; clear S a; intro a S; replace M := M.join M1; clear M1
  simp only [List.cons_append, List.nil_append] at M
  refine st_go [1] S rfl (by kernel_rfl) ?_; clear S a; intro a S
  refine nxC ?_
  refine wp_seq ?_
  refine nxD ?_
  refine st_go [1] S rfl (by kernel_rfl) ?_; clear S a; intro a S
  refine st_y S rfl rfl rfl (y_eqlF Try.underlying69 (by kernel_rfl) S rfl rfl) ?_; clear S a; intro a S
  refine nxC ?_
  refine st_if (t := 17) S rfl ?_ ?_
  · clear S; intro h17 S
    cases h17
  clear S; intro h17 S
  refine st_condF S rfl ?_
  refine wp_skip ?_
  refine nxE ?_
  refine st_alloc S M rfl rfl #[.int .i64 0] (by kernel_rfl) ?_; clear S M a; intro a w5 bN S M hB
  refine st_store (sz := 1) (us := [_]) S M 0 rfl (by kernel_rfl) rfl rfl rfl rfl rfl rfl (by first | decide | (simp; done) | (simp; omega)) ?_; clear M; intro w6 M
  simp only [putL, List.set_cons_zero, List.set_cons_succ, Nat.reduceAdd] at M
  refine nxC ?_
  refine wp_seq ?_
  refine nxD ?_
  refine st_go [1] S rfl (by kernel_rfl) ?_; clear S a; intro a S
  refine nxC ?_
  refine wp_block ?_
  refine wp_range (encs := encN2) (xs := []) S M rfl (enters_of Try.func44 (by decide) rfl) (each1_gen bE) (fun _ => rfl) (by kernel_rfl) (fun _ Hs => Hs = [.blk bN #[.int .i64 0] 3, .blk bE zSt.toArray 63, .blk bR #[.bool false] 4, .blk bY #[.int .i64 0] 3, .blk bX #[.slice none 0 0] 71]) (rfl) (fun pre Hs W hI M => by subst hI; exact M.blk 1 rfl) ?_ ?_
  · intro lY pre x tX Hs wr BK a hx; exact absurd hx (by simp)
  intro D1 wd Hs a hI M S
  subst hI
  refine block_normal ?_
  refine nxE ?_
  refine st_run [2, 6] S M rfl (by kernel_rfl) ?_; clear S a; intro a S
  refine st_y S rfl rfl rfl (y_lenS (E := 74) S rfl (by kernel_rfl)) ?_; clear S a; intro a S
  refine st_go [1, 1] S rfl (by kernel_rfl) ?_; clear S a; intro a S
  refine st_if (t := 54) S rfl ?_ ?_
  · clear S; intro h54 S
    refine st_go [0, 0, 0, 1] S rfl (by kernel_rfl) ?_; clear S a; intro a S
    refine st_store (sz := 1) (us := [_]) S M 3 rfl (by kernel_rfl) rfl rfl rfl rfl rfl rfl (by first | decide | (simp; done) | (simp; omega)) ?_; clear M; intro w7 M
    simp only [putL, List.set_cons_zero, List.set_cons_succ, Nat.reduceAdd] at M
    refine nxC ?_
    refine wp_ret ?_
    refine end_mark S M 0 rfl ?_; clear S M a; intro a wM S M
    simp only [List.eraseIdx_cons_succ, List.eraseIdx_cons_zero] at M
    refine end_plain ?_
    refine end_one S rfl (res_cell (by kernel_rfl) rfl (M.cell 2 rfl rfl)) ?_
    exact ⟨rfl, M.below⟩
  clear S; intro h54 S
  refine st_run [2, 5, 1, 1] S M rfl (by kernel_rfl) ?_; clear S a; intro a S
  refine st_store (sz := 1) (us := [_]) S M 3 rfl (by kernel_rfl) rfl rfl rfl rfl rfl rfl (by first | decide | (simp; done) | (simp; omega)) ?_; clear M; intro w8 M
  simp only [putL, List.set_cons_zero, List.set_cons_succ, Nat.reduceAdd] at M
  refine nxC ?_
  refine wp_ret ?_
  refine end_mark S M 0 rfl ?_; clear S M a; intro a wM S M
  simp only [List.eraseIdx_cons_succ, List.eraseIdx_cons_zero] at M
  refine end_plain ?_
  refine end_one S rfl (res_cell (by kernel_rfl) rfl (M.cell 2 rfl rfl)) ?_
  exact ⟨rfl, M.below⟩
def wkS1 : DS := putF DS.new (cutF [97] 1 1)
def wkS3 : DS := putF wkS1.flush (cutF [98] 2 1)
def wkS5 : DS := { wkS3.crash [] with down := false }
theorem crash_nil (S : DS) (t : Int) (j : Nat) : secAt (S.crash []) t j = durS S t j := rfl
theorem wk97 : cutOk [97] 1 1 := by refine ⟨by simp, by omega, by omega, by decide, ?_⟩; decide
theorem wk_scan : (scanOf wkS5 1).l = [(1, [97])] ∧ (scanOf wkS5 1).next = 2 := by
  have J1 : JInv wkS1 1 (cutF [97] 1 1) 0 := by
    have := JInv.steps (cutF [97] 1 1) (JInv.start 1) (by rw [cutF_length]; decide) (fun i x hx => by rw [cutF_seq hx]; simp)
    rwa [List.nil_append] at this
  have J2 := J1.flush
  have J3 : JInv wkS3 1 (cutF [97] 1 1 ++ cutF [98] 2 1) 1 := JInv.steps (cutF [98] 2 1) J2 (by rw [cutF_length, cutF_length]; decide) (fun i x hx => by rw [cutF_seq hx, cutF_length]; simp [nOf]; omega)
  have hcont : ∀ (j : Nat), j < 24 → secAt wkS5 1 j = if j = 0 then secB (frOf [97] 1 1 0) else zero64 := fun j hj => by
    show secAt (wkS3.crash []) 1 j = _
    rw [crash_nil]
    by_cases h : j = 0
    · subst h
      rw [if_pos rfl]
      exact (J3.old 0 (frOf [97] 1 1 0) (by omega) rfl).1
    · rw [if_neg h]
      exact (J3.new j (by omega) hj).1
  have hfr : framesL 1 1 [[97]] = [frOf [97] 1 1 0] := rfl
  obtain ⟨k, hk, h1, h2, h3, -⟩ := scan_kept [[97]] (q := 1) (inc := 0) (inc' := 1) (l := []) (xs := secsOf wkS5 1) (by omega) (fun p hp => by simp [beginsL] at hp; subst hp; exact wk97) (by rw [hfr, secsOf_len]; decide)
    (fun j x y hy hx => by
      rw [hfr] at hx
      obtain ⟨hj, -⟩ := List.getElem?_eq_some_iff.1 hx
      obtain rfl : j = 0 := by simpa using hj
      rw [secsOf_get _ _ (by omega), hcont 0 (by omega), if_pos rfl] at hy
      left
      rw [← Option.some.inj hy, ← Option.some.inj hx])
    (fun j y hy hj => by
      have hj24 : j < 24 := by
        have := (List.getElem?_eq_some_iff.1 hy).1
        rwa [secsOf_len] at this
      rw [hfr] at hj
      rw [secsOf_get _ _ hj24, hcont j hj24, if_neg (by simp at hj; omega)] at hy
      rw [← Option.some.inj hy]; exact readF_zero)
  have hk1 : k = 1 := by
    have := h3 1 (by decide) (fun j x y hj hy hx => by
      rw [List.take_of_length_le (by decide), hfr] at hj
      obtain rfl : j = 0 := by simpa using hj
      rw [secsOf_get _ _ (by omega), hcont 0 (by omega), if_pos rfl] at hy
      rw [hfr] at hx
      rw [← Option.some.inj hy, ← Option.some.inj hx])
    simp at hk; omega
  subst hk1
  exact ⟨h1, h2⟩
theorem new_cache (k : Int) : (DS.new.cache k).length ≤ 0 := Nat.le_refl _
theorem appOne {t n inc : Int} {bs : List UInt8} {S0 : DS} {n' er : Int} {S1 : DS} (h : AppP t n inc bs S0 n' er S1) (ho : appOk t n bs) : n' = n + (nOf bs.length : Nat) ∧ er = 0 ∧ S1 = putF S0 (cutF bs n inc) := by
  rcases h with ⟨-, h⟩ | ⟨h, -⟩
  · exact h
  · exact absurd ho h
set_option maxHeartbeats 1000000 in
theorem wakes06 (w : World) : Calls Try.prog 7 #[] w fun e w' => e = .returned (.bool true) ∧ Below w.heap.size w w' := by
  have M := Mem.start w
  have hS1 : ∀ k, (wkS1.cache k).length ≤ 1 := fun k => putF_cache_le (cutF [97] 1 1) new_cache k
  have hS3 : ∀ k, (wkS3.cache k).length ≤ 1 := fun k => putF_cache_le (cutF [98] 2 1) (m := 0) (fun _ => Nat.le_refl _) k
  have hd1 : wkS1.down = false := putF_down _ _
  have hd2 : wkS1.flush.down = false := hd1
  have hd3 : wkS3.down = false := (putF_down _ _).trans hd2
  obtain ⟨hwl, hwn⟩ := wk_scan
  refine calls_enter Try.func7 rfl 84 rfl rfl ?_; intro a S
  refine nxD ?_
  refine st_go [1] S rfl (by kernel_rfl) ?_; clear S a; intro a S
  refine nxA ?_
  refine st_call (xs := []) S (enters_of Try.func8 (by decide) rfl) rfl rfl rfl (new_any _) ?_
  rintro _ w1 ⟨b, E, rfl, hE, M1⟩; refine ⟨_, rfl, ?_⟩; clear S a; intro a S; replace M := M.join M1; clear M1
  rw [List.append_nil] at M
  refine st_go [1] S rfl (by kernel_rfl) ?_; clear S a; intro a S
  refine nxA ?_
  refine st_go [1] S rfl (by kernel_rfl) ?_; clear S a; intro a S
  refine st_y S rfl rfl rfl (y_build (ps := [(0, (Operand.const (Value.int IntKind.i64 1))), (1, (Operand.const (Value.int IntKind.i64 1)))]) (pl := [(0, 1), (1, 1)]) (z := [.int .i64 0, .int .i64 0]) (cs := [_, _]) S (by kernel_rfl) rfl (rfl)) ?_; clear S a; intro a S
  refine st_lit (ps := [(0, (Operand.const (Value.int IntKind.u8 97)))]) (e := 5) (sz := 1) (zl := [.int .u8 0]) (cs := [_]) S M rfl rfl (by kernel_rfl) rfl (rfl) ?_; clear S M a; intro a w2 bZ S M hB
  refine st_convB (e := 5) (bs := [97]) S M 0 rfl rfl rfl rfl Try.underlying32 (by kernel_rfl) (by kernel_rfl) rfl rfl ?_; clear S M a; intro a w3 S M
  simp only [List.set_cons_zero, List.set_cons_succ] at M
  refine st_call (xs := [(Operand.tmp 13), (Operand.tmp 14), (Operand.const (Value.int IntKind.i64 1)), (Operand.tmp 16)]) S (enters_of Try.func9 (by decide) rfl) rfl rfl rfl (append_any (A := [_]) 1 1 1 _ [97] hE M (RdH.own 0 rfl) rfl (by decide) (by decide) (by decide) (fun k => by have := new_cache k; omega)) ?_
  rintro _ w4 ⟨n', er, S1, rfl, hP, E1, hE1, M1⟩; refine ⟨_, rfl, ?_⟩; clear S M a; intro a S; have M := M1; clear M1
  obtain ⟨rfl, rfl, rfl⟩ := appOne hP (by decide)
  refine st_go [1, 1, 1] S rfl (by kernel_rfl) ?_; clear S a; intro a S
  refine st_alloc S M rfl rfl #[.int .i64 0, .int .i64 0] (by kernel_rfl) ?_; clear S M a; intro a w5 bL S M hB
  refine st_store (sz := 2) (us := [_, _]) S M 0 rfl (by kernel_rfl) rfl rfl rfl rfl rfl rfl (by first | decide | (simp; done) | (simp; omega)) ?_; clear M; intro w6 M
  simp only [putL, List.set_cons_zero, List.set_cons_succ, Nat.reduceAdd] at M
  refine st_go [1] S rfl (by kernel_rfl) ?_; clear S a; intro a S
  refine nxA ?_
  refine st_go [1] S rfl (by kernel_rfl) ?_; clear S a; intro a S
  refine st_call (xs := [(Operand.tmp 20)]) S (enters_of Try.func18 (by decide) rfl) rfl rfl rfl (flush_any (A := [_, _]) (S0 := wkS1) hE1 M hd1 (fun k => by have := hS1 k; omega)) ?_
  rintro _ w7 ⟨rfl, E2, hE2, M1⟩; refine ⟨_, rfl, ?_⟩; clear S M a; intro a S; have M := M1; clear M1
  refine st_go [1] S rfl (by kernel_rfl) ?_; clear S a; intro a S
  refine nxA ?_
  refine st_go [1] S rfl (by kernel_rfl) ?_; clear S a; intro a S
  refine st_y S rfl rfl rfl (y_loadAgg (cs := [_, _]) S (by kernel_rfl) rfl rfl (M.cellsAt (k := 2) 0 rfl rfl)) ?_; clear S a; intro a S
  refine st_lit (ps := [(0, (Operand.const (Value.int IntKind.u8 98)))]) (e := 5) (sz := 1) (zl := [.int .u8 0]) (cs := [_]) S M rfl rfl (by kernel_rfl) rfl (rfl) ?_; clear S M a; intro a w8 bZ2 S M hB
  refine st_convB (e := 5) (bs := [98]) S M 0 rfl rfl rfl rfl Try.underlying32 (by kernel_rfl) (by kernel_rfl) rfl rfl ?_; clear S M a; intro a w9 S M
  simp only [List.set_cons_zero, List.set_cons_succ] at M
  refine st_call (xs := [(Operand.tmp 23), (Operand.tmp 24), (Operand.const (Value.int IntKind.i64 1)), (Operand.tmp 26)]) S (enters_of Try.func9 (by decide) rfl) rfl rfl rfl (append_any (A := [_, _, _]) (S0 := wkS1.flush) 1 2 1 _ [98] hE2 M (RdH.own 0 rfl) hd2 (by decide) (by decide) (by decide) (fun k => Nat.zero_le _)) ?_
  rintro _ w10 ⟨n', er, S1, rfl, hP, E3, hE3, M1⟩; refine ⟨_, rfl, ?_⟩; clear S M a; intro a S; have M := M1; clear M1
  obtain ⟨rfl, rfl, rfl⟩ := appOne hP (by decide)
  refine st_go [1, 1, 1] S rfl (by kernel_rfl) ?_; clear S a; intro a S
  refine st_store (sz := 2) (us := [_, _]) S M 1 rfl (by kernel_rfl) rfl rfl rfl rfl rfl rfl (by first | decide | (simp; done) | (simp; omega)) ?_; clear M; intro w11 M
  simp only [putL, List.set_cons_zero, List.set_cons_succ, Nat.reduceAdd] at M
  refine st_go [1] S rfl (by kernel_rfl) ?_; clear S a; intro a S
  replace S := S.sub [(0, _), (1, _), (2, _), (3, _), (4, _), (5, _)] rfl
  refine nxA ?_
  refine st_go [1] S rfl (by kernel_rfl) ?_; clear S a; intro a S
  refine st_call (xs := [(Operand.tmp 30), (Operand.const (Value.slice none 0 0))]) S (enters_of Try.func12 (by decide) rfl) rfl rfl rfl (crash_any (A := [_, _, _]) (S0 := wkS3) none 0 [] hE3 M (fun W _ => Rd.nil _ _ _ _) hd3 (fun k => by have := hS3 k; omega)) ?_
  rintro _ w12 ⟨rfl, E4, hE4, M1⟩; refine ⟨_, rfl, ?_⟩; clear S M a; intro a S; have M := M1; clear M1
  refine st_go [1] S rfl (by kernel_rfl) ?_; clear S a; intro a S
  refine nxA ?_
  refine st_go [1] S rfl (by kernel_rfl) ?_; clear S a; intro a S
  refine st_call (xs := [(Operand.tmp 32)]) S (enters_of Try.func13 (by decide) rfl) rfl rfl rfl (up_any (A := [_, _, _]) (S0 := wkS3.crash []) hE4 M rfl) ?_
  rintro _ w13 ⟨rfl, E5, hE5, M1⟩; refine ⟨_, rfl, ?_⟩; clear S M a; intro a S; have M := M1; clear M1
  refine st_go [1] S rfl (by kernel_rfl) ?_; clear S a; intro a S
  refine nxA ?_
  refine st_go [1] S rfl (by kernel_rfl) ?_; clear S a; intro a S
  refine st_call (xs := [(Operand.tmp 35), (Operand.const (Value.int IntKind.i64 1))]) S (enters_of Try.func10 (by decide) rfl) rfl rfl rfl (Scan_any (A := [_, _, _]) (S0 := wkS5) 1 hE5 M rfl (fun k => Nat.zero_le _) (by decide)) ?_
  rintro _ w14 ⟨rs, ra, rc, lo, hi, rfl, hrs, -, -, M1⟩; refine ⟨_, rfl, ?_⟩; clear S M a; intro a S; have M := M1; clear M1
  rw [hwl] at hrs
  obtain ⟨r, rfl, hr⟩ : ∃ r : RB, rs = [r] ∧ r.bs = [97] := by
    cases rs with
    | nil => cases hrs
    | cons x t => cases t with
      | nil => simp at hrs; exact ⟨x, rfl, hrs⟩
      | cons y t => simp at hrs
  rw [hwn] at S
  simp only [List.map_cons, List.map_nil, List.cons_append, List.nil_append] at M
  refine st_go [1, 1, 1, 1] S rfl (by kernel_rfl) ?_; clear S a; intro a S
  refine st_alloc S M rfl rfl #[.int .i64 0, .int .i64 0] (by kernel_rfl) ?_; clear S M a; intro a w15 bL2 S M hB
  refine st_go [1] S rfl (by kernel_rfl) ?_; clear S a; intro a S
  refine st_store (sz := 2) (us := [_, _]) S M 0 rfl (by kernel_rfl) rfl rfl rfl rfl rfl rfl (by first | decide | (simp; done) | (simp; omega)) ?_; clear M; intro w16 M
  simp only [putL, List.set_cons_zero, List.set_cons_succ, Nat.reduceAdd] at M
  refine st_go [1] S rfl (by kernel_rfl) ?_; clear S a; intro a S
  refine nxA ?_
  refine st_go [1, 1, 1] S rfl (by kernel_rfl) ?_; clear S a; intro a S
  refine st_fi (t := 42) S rfl ?_ ?_
  · clear S; intro h42 S
    all_goals (simp at h42)
  clear S; intro h42 S
  refine st_go [1, 1, 1, 1] S rfl (by kernel_rfl) ?_; clear S a; intro a S
  refine st_fi (t := 46) S rfl ?_ ?_
  · clear S; intro h46 S
    all_goals (simp at h46)
  clear S; intro h46 S
  refine st_go [1, 1, 1, 1] S rfl (by kernel_rfl) ?_; clear S a; intro a S
  refine st_fi (t := 50) S rfl ?_ ?_
  · clear S; intro h50 S
    all_goals (simp at h50)
  clear S; intro h50 S
  refine st_go [1, 1, 1, 1] S rfl (by kernel_rfl) ?_; clear S a; intro a S
  refine st_fi (t := 54) S rfl ?_ ?_
  · clear S; intro h54 S
    all_goals (simp at h54)
  clear S; intro h54 S
  refine st_go [1, 1, 1, 1] S rfl (by kernel_rfl) ?_; clear S a; intro a S
  refine st_fi (t := 58) S rfl ?_ ?_
  · clear S; intro h58 S
    all_goals (simp at h58)
  clear S; intro h58 S
  refine st_go [1, 1, 1, 1] S rfl (by kernel_rfl) ?_; clear S a; intro a S
  refine st_fi (t := 62) S rfl ?_ ?_
  · clear S; intro h62 S
    all_goals (simp at h62)
  clear S; intro h62 S
  refine st_go [1] S rfl (by kernel_rfl) ?_; clear S a; intro a S
  refine st_y S rfl rfl rfl (y_lenS (E := 32) S rfl (by kernel_rfl)) ?_; clear S a; intro a S
  refine st_go [1, 1, 1] S rfl (by kernel_rfl) ?_; clear S a; intro a S
  refine st_fi (t := 67) S rfl ?_ ?_
  · clear S; intro h67 S
    all_goals (simp at h67)
  clear S; intro h67 S
  refine st_go [1] S rfl (by kernel_rfl) ?_; clear S a; intro a S
  refine st_y S rfl rfl rfl (y_indexR (e := 32) (sz := 1) S (by kernel_rfl) rfl (M.readAll 1 rfl (by unfold maxLen; simp)) rfl (by first | omega | (simp; done) | (simp; omega))) ?_; clear S a; intro a S
  refine st_y S rfl rfl rfl (y_load S (by kernel_rfl) rfl ((M.readAll 1 rfl (by unfold maxLen; simp)).at_.one 0 rfl)) ?_; clear S a; intro a S
  refine st_y S rfl rfl rfl (y_bytesStr (e := 5) S rfl (by kernel_rfl) (by kernel_rfl) (by kernel_rfl) (M.readB (r := r) (by simp) (by rw [hr]; decide))) ?_; clear S a; intro a S
  refine st_y S rfl rfl rfl (y_eqlStr S rfl rfl) ?_; clear S a; intro a S
  refine st_go [1, 1] S rfl (by kernel_rfl) ?_; clear S a; intro a S
  refine st_tils (t := 74) S rfl ?_ ?_
  · clear S; intro h74 S
    rw [hr, show (#[97] : Array UInt8) = ([97] : List UInt8).toArray from rfl, strEq] at h74; simp at h74
  clear S; intro h74 S
  refine st_run [2, 1, 1, 1, 1] S M rfl (by kernel_rfl) ?_; clear S a; intro a S
  refine st_fi (t := 79) S rfl ?_ ?_
  · clear S; intro h79 S
    all_goals (simp at h79)
  clear S; intro h79 S
  refine st_run [2, 5, 1, 1, 1] S M rfl (by kernel_rfl) ?_; clear S a; intro a S
  replace S := S.sub [(1, _), (2, _), (3, _), (4, _), (5, _), (6, _), (7, _), (9, _), (8, _), (10, _), (0, _)] rfl
  refine nxC ?_
  refine wp_ret ?_
  refine end_one S rfl (res_tmp rfl) ?_
  exact ⟨rfl, M.below⟩

end Go.Proofs.Ytafejnbfgkkjkaa
