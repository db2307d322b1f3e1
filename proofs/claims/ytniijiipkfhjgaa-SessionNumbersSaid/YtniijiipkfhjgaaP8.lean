/-
  What SessionNumbers rests on, part 8.
-/
import Derived.Test.YtniijiipkfhjgaaP7
namespace Go.Proofs.Ytniijiipkfhjgaa
open Go.RowKit Go.Sort
/-- where it is known not to be refused, and what comes of it -/
theorem StepN.known {wo w' : World} {A : List Ent} {e : Ending} {N : Prop} {R : Ses → Tol → Prop} (h : StepN wo A e w' N R) (hN : ¬ N) {s1 : Ses} {t1 : Tol} (hR : ∀ s t, R s t → s = s1 ∧ t = t1) :
    ∃ rl ro rm ra rs rc re : Rw, e = .returned (.tuple #[.agg (sesL s1 rl ro).toArray, .agg (tolL t1 rm ra rs rc re).toArray, .int .i64 0]) ∧ Mem wo w' (sesE s1 rl ro ++ (tolE t1 rm ra rs rc re ++ A)) := by
  obtain ⟨s, t, er, rl, ro, rm, ra, rs, rc, re, h1, h2, h3, h4⟩ := h
  have h5 : er = 0 := by
    rcases Decidable.em (er = 0) with h | h
    · exact h
    · exact absurd (h4 h) hN
  subst h5
  obtain ⟨rfl, rfl⟩ := hR s t (h3 rfl)
  exact ⟨rl, ro, rm, ra, rs, rc, re, h1, h2⟩
abbrev wOf : Of8 := ⟨1, 2, 1, 2, 1, 2, 1, 2⟩
abbrev wN : Nm := ⟨7, 1, 1⟩
abbrev wO1 : Ope := ⟨1, 3, wN, 0, 0, 0, 0, 0, 0, 0, 0, zMg⟩
abbrev wM : Msg := ⟨2, 0, 2, 0, 0, wN, 1, 0, 5, zV8, 0, false, 0, 0⟩
abbrev wO2 : Ope := ⟨1, 3, wN, 1, 4, 0, 0, 1, 0, 0, 2, wM⟩
abbrev wO3 : Ope := ⟨1, 3, wN, 0, 4, 0, 0, 1, 0, 0, 0, zMg⟩
abbrev wO4 : Ope := ⟨1, 3, wN, 2, 4, 0, 0, 1, 0, 0, 2, zMg⟩
abbrev wV : V8 := ⟨4, 0, 0, 0, 0, 0, 0, 0⟩
abbrev wD : Msg := ⟨3, 2, 0, 1, 1, wN, 1, 0, 0, wV, 0, false, 0, 0⟩
abbrev wS0 : Ses := ⟨[], 0, 1, []⟩
abbrev wS1 : Ses := ⟨[wO1], 1, 1, []⟩
abbrev wS2 : Ses := ⟨[wO2], 1, 1, []⟩
abbrev wS3 : Ses := ⟨[wO3], 1, 1, []⟩
abbrev wS4 : Ses := ⟨[wO4], 1, 1, []⟩
abbrev wT1 : Tol := ⟨[], [⟨3, 1, 0, zV8, 7, 0⟩], [⟨0, wN, 0, zV8, 0⟩], [], []⟩
abbrev wT2 : Tol := ⟨[wM], [], [], [], []⟩
abbrev wT3 : Tol := ⟨[], [⟨3, 1, 0, wV, 7, 1⟩], [⟨1, wN, 5, wV, 0⟩], [], []⟩
abbrev wT4 : Tol := ⟨[⟨9, 0, 2, 0, 0, wN, 0, 0, 0, zV8, 0, false, 0, 0⟩], [], [⟨3, wN, 0, zV8, 0⟩], [], []⟩
abbrev wC1 : Cal := ⟨0, 3, 0, 0, 0⟩
abbrev wC2 : Cal := ⟨1, 3, 1, 5, 0⟩
abbrev wC3 : Cal := ⟨3, 3, 1, 0, 0⟩
theorem wk1 : Dsk.begin ⟨wS0, Tol.none, wOf⟩ wC1 7 = ⟨wS1, wT1, wOf⟩ := by kernel_rfl
theorem wk2 : Dsk.touch ⟨wS1, Tol.none, wOf⟩ 0 wO1 wC2 [] = ⟨wS2, wT2, wOf⟩ := by kernel_rfl
theorem wk3 : Dsk.did ⟨wS2, Tol.none, wOf⟩ 0 wO2 wD = ⟨wS3, wT3, wOf⟩ := by kernel_rfl
theorem wk4 : Dsk.commit ⟨wS3, Tol.none, wOf⟩ 0 wO3 = ⟨wS4, wT4, wOf⟩ := by kernel_rfl
theorem one_get {α : Type} {a b : α} {i : Nat} (h : [a][i]? = some b) : i = 0 ∧ b = a := by
  cases i with
  | zero => exact ⟨rfl, (Option.some.inj h).symm⟩
  | succ i => exact absurd h (by simp)
theorem wk1R {D' : Dsk} (h : Dsk.DoesR ⟨wS0, Tol.none, wOf⟩ wC1 [] 7 D') : D' = ⟨wS1, wT1, wOf⟩ := by
  rcases h with ⟨-, rfl⟩ | ⟨h, -⟩
  · exact wk1
  · exact absurd rfl h
theorem wk2R {D' : Dsk} (h : Dsk.DoesR ⟨wS1, Tol.none, wOf⟩ wC2 [] 0 D') : D' = ⟨wS2, wT2, wOf⟩ := by
  rcases h with ⟨h, -⟩ | ⟨-, ⟨-, h⟩ | ⟨i, o, ho, -, -, -, hD⟩⟩
  · exact absurd h (by decide)
  · exact absurd rfl (h rfl wO1 rfl rfl rfl)
  · obtain ⟨rfl, rfl⟩ := one_get ho
    rcases hD with ⟨h, -⟩ | ⟨h, -⟩ | ⟨-, rfl⟩
    · exact absurd h (by decide)
    · exact absurd h (by decide)
    · exact wk2
theorem wk3R {s : Ses} {t : Tol} (h : HearR wS2 wOf wD s t) : s = wS3 ∧ t = wT3 := by
  rcases h with ⟨-, -, h⟩ | ⟨i, o, D', ho, -, rfl, rfl, hD⟩
  · exact absurd rfl (h wO2 rfl rfl rfl rfl rfl)
  · obtain ⟨rfl, rfl⟩ := one_get ho
    rcases hD with ⟨-, -, -, -, rfl⟩ | ⟨h, -⟩
    · rw [wk3]; exact ⟨rfl, rfl⟩
    · exact absurd h (by decide)
theorem wk4R {D' : Dsk} (h : Dsk.DoesR ⟨wS3, Tol.none, wOf⟩ wC3 [] 0 D') : D' = ⟨wS4, wT4, wOf⟩ := by
  rcases h with ⟨h, -⟩ | ⟨-, ⟨-, h⟩ | ⟨i, o, ho, -, -, -, hD⟩⟩
  · exact absurd h (by decide)
  · exact absurd rfl (h rfl wO3 rfl rfl rfl)
  · obtain ⟨rfl, rfl⟩ := one_get ho
    rcases hD with ⟨-, rfl⟩ | ⟨h, -⟩ | ⟨h, -⟩
    · exact wk4
    · exact absurd h (by decide)
    · exact absurd rfl h.1
abbrev wU : Int → Int := fun _ => 1
theorem wI1 : DI ⟨wS1, wT1, wOf⟩ (fun _ => 0) [] [] wU := by
  rw [← wk1]
  exact (SI.start (u := wU)).begin wOf wC1 rfl (by omega) fun _ => ⟨fun o ho => absurd ho (by simp), fun o ho => absurd ho (by simp), Int.le_refl _⟩
theorem wI2 : ∃ f B O, DI ⟨wS2, wT2, wOf⟩ f B O wU :=
  ⟨_, _, _, (wI1.next).call wOf wC2 [] (by decide) (st := 0) (by decide) (fun h => absurd h (by decide)) (.inr ⟨by decide, .inr ⟨0, wO1, rfl, rfl, rfl, rfl, .inr (.inr ⟨by decide, wk2.symm⟩)⟩⟩)⟩
theorem wI3 : ∃ f B O, DI ⟨wS3, wT3, wOf⟩ f B O wU := by
  obtain ⟨f, B, O, h⟩ := wI2
  exact ⟨_, _, _, h.next.hear (of := wOf) (m := wD) (.inr ⟨0, wO2, ⟨wS3, wT3, wOf⟩, rfl, rfl, rfl, rfl, .inl ⟨rfl, rfl, rfl, rfl, wk3.symm⟩⟩)⟩
theorem wMay0 : wS0.May := ((SI.start (u := wU)) zOf).ok.well.toMay
theorem wMay1 : wS1.May := wI1.ok.well.toMay
theorem wMay2 : wS2.May := let ⟨_, _, _, h⟩ := wI2; h.ok.well.toMay
theorem wMay3 : wS3.May := let ⟨_, _, _, h⟩ := wI3; h.ok.well.toMay
theorem wSh2 : ∀ o ∈ wS2.l, ShOk o.sh := let ⟨_, _, _, h⟩ := wI2; h.ok.well.shok
theorem wSh3 : ∀ o ∈ wS3.l, ShOk o.sh := let ⟨_, _, _, h⟩ := wI3; h.ok.well.shok
theorem wDmay : wD.may [] = true := by kernel_rfl
theorem bs_nil {wo : World} {A : List Ent} : RdH wo A (.slice none ([] : List UInt8).length 0) [] := fun _ _ => Rd.nil _ _ _ _
set_option maxHeartbeats 4000000 in
theorem wakes24_any (w : World) : Calls Try.prog 6 #[] w fun e w' => e = .returned (.bool true) ∧ Below w.heap.size w w' := by
  have M := Mem.start w
  refine calls_enter Try.func6 rfl 135 rfl rfl ?_; intro a S
  refine nxD ?_
  refine st_go [1] S rfl (by kernel_rfl) ?_; clear S a; intro a S
  refine nxA ?_
  refine st_call (xs := [(Operand.const (Value.int IntKind.i64 1))]) S (enters_of Try.func7 (by decide) rfl) rfl rfl rfl (new_any 1 _) ?_
  rintro _ w1 ⟨la, k, er, rfl, hK, hnew⟩
  obtain ⟨rfl, rfl, rfl⟩ := hnew (by omega)
  refine ⟨_, rfl, ?_⟩; clear S a; intro a S; replace M := M.grow hK
  refine st_go [1, 1, 1] S rfl (by kernel_rfl) ?_; clear S a; intro a S
  refine st_alloc S M rfl rfl #[.slice none 0 0, .int .i64 0, .int .i64 0, .slice none 0 0] (by kernel_rfl) ?_; clear S M a; intro a w2 bS S M hB
  refine st_store (sz := 4) (us := [_, _, _, _]) S M 0 rfl (by kernel_rfl) rfl rfl rfl rfl rfl rfl (by first | decide | (simp; done) | (simp; omega)) ?_; clear M; intro w3 M
  simp only [putL, List.set_cons_zero, List.set_cons_succ, Nat.reduceAdd] at M
  refine st_go [1] S rfl (by kernel_rfl) ?_; clear S a; intro a S
  refine nxA ?_
  refine st_y S rfl rfl rfl (y_buildA (ps := [(0, (Operand.const (Value.int IntKind.i64 1))), (1, (Operand.const (Value.int IntKind.i64 2))), (2, (Operand.const (Value.int IntKind.i64 1))), (3, (Operand.const (Value.int IntKind.i64 2))), (4, (Operand.const (Value.int IntKind.i64 1))), (5, (Operand.const (Value.int IntKind.i64 2))), (6, (Operand.const (Value.int IntKind.i64 1))), (7, (Operand.const (Value.int IntKind.i64 2)))]) (sz := 1) (z := [.int .i64 0, .int .i64 0, .int .i64 0, .int .i64 0, .int .i64 0, .int .i64 0, .int .i64 0, .int .i64 0]) (cs := [_, _, _, _, _, _, _, _]) S (by kernel_rfl) rfl rfl) ?_; clear S a; intro a S
  refine st_alloc S M rfl rfl #[.int .i64 0, .int .i64 0, .int .i64 0, .int .i64 0, .int .i64 0, .int .i64 0, .int .i64 0, .int .i64 0] (by kernel_rfl) ?_; clear S M a; intro a w4 bF S M hB
  refine st_store (sz := 8) (us := [_, _, _, _, _, _, _, _]) S M 0 rfl (by kernel_rfl) rfl rfl rfl rfl rfl rfl (by first | decide | (simp; done) | (simp; omega)) ?_; clear M; intro w5 M
  simp only [putL, List.set_cons_zero, List.set_cons_succ, Nat.reduceAdd] at M
  refine nxA ?_
  refine st_y S rfl rfl rfl (y_loadAgg (cs := [_, _, _, _]) S (by kernel_rfl) rfl rfl (M.cellsAt (k := 4) 1 rfl rfl)) ?_; clear S a; intro a S
  refine st_y S rfl rfl rfl (y_build (ps := [(1, (Operand.const (Value.int IntKind.i64 3)))]) (pl := [(0, 1), (1, 1), (2, 1), (3, 1), (4, 1), (5, 1)]) (z := [.int .i8 0, .int .i64 0, .int .i64 0, .int .i64 0, .slice none 0 0, .int .i64 0]) (cs := [_, _, _, _, _, _]) S (by kernel_rfl) rfl (rfl)) ?_; clear S a; intro a S
  refine st_y S rfl rfl rfl (y_loadAgg (cs := [_, _, _, _, _, _, _, _]) S (by kernel_rfl) rfl rfl (M.cellsAt (k := 8) 0 rfl rfl)) ?_; clear S a; intro a S
  refine st_call (xs := [(Operand.tmp 21), (Operand.tmp 22), (Operand.tmp 23), (Operand.const (Value.int IntKind.i64 7))]) S (enters_of Try.func9 (by decide) rfl) rfl rfl rfl (call_any (A := _) wS0 none none 0 0 wC1 none 0 [] wOf 7 (fun W M9 => ⟨Rd.nil _ _ _ _, Rd.nil _ _ _ _⟩) M (by decide) (fun o ho => absurd ho (by simp)) bs_nil) ?_
  rintro _ w6 hst
  obtain ⟨rl, ro, rm, ra, rs, rc, re, rfl, M1⟩ := hst.known (fun h => h ⟨wMay0, by decide, by decide⟩) (s1 := wS1) (t1 := wT1) (fun s t h => by obtain ⟨-, -, -, D', hD, rfl, rfl⟩ := h; rw [wk1R hD]; exact ⟨rfl, rfl⟩)
  refine ⟨_, rfl, ?_⟩; clear S M a; intro a S; have M := M1; clear M1
  refine st_go [1, 1, 1, 1] S rfl (by kernel_rfl) ?_; clear S a; intro a S
  refine st_alloc S M rfl rfl #[.slice none 0 0, .slice none 0 0, .slice none 0 0, .slice none 0 0, .slice none 0 0] (by kernel_rfl) ?_; clear S M a; intro a w7 bA S M hB
  refine st_store (sz := 4) (us := [_, _, _, _]) S M 9 rfl (by kernel_rfl) rfl rfl rfl rfl rfl rfl (by first | decide | (simp; done) | (simp; omega)) ?_; clear M; intro w8 M
  simp only [putL, List.set_cons_zero, List.set_cons_succ, Nat.reduceAdd] at M
  refine st_store (sz := 5) (us := [_, _, _, _, _]) S M 0 rfl (by kernel_rfl) rfl rfl rfl rfl rfl rfl (by first | decide | (simp; done) | (simp; omega)) ?_; clear M; intro w9 M
  simp only [putL, List.set_cons_zero, List.set_cons_succ, Nat.reduceAdd] at M
  refine st_go [1] S rfl (by kernel_rfl) ?_; clear S a; intro a S
  refine nxA ?_
  refine st_y S rfl rfl rfl (y_loadAgg (cs := [_, _, _, _]) S (by kernel_rfl) rfl rfl (M.cellsAt (k := 4) 9 rfl rfl)) ?_; clear S a; intro a S
  refine st_y S rfl rfl rfl (y_build (ps := [(0, (Operand.const (Value.int IntKind.i8 1))), (1, (Operand.const (Value.int IntKind.i64 3))), (2, (Operand.const (Value.int IntKind.i64 1))), (3, (Operand.const (Value.int IntKind.i64 5)))]) (pl := [(0, 1), (1, 1), (2, 1), (3, 1), (4, 1), (5, 1)]) (z := [.int .i8 0, .int .i64 0, .int .i64 0, .int .i64 0, .slice none 0 0, .int .i64 0]) (cs := [_, _, _, _, _, _]) S (by kernel_rfl) rfl (rfl)) ?_; clear S a; intro a S
  refine st_y S rfl rfl rfl (y_loadAgg (cs := [_, _, _, _, _, _, _, _]) S (by kernel_rfl) rfl rfl (M.cellsAt (k := 8) 8 rfl rfl)) ?_; clear S a; intro a S
  refine st_call (xs := [(Operand.tmp 29), (Operand.tmp 30), (Operand.tmp 31), (Operand.const (Value.int IntKind.i64 0))]) S (enters_of Try.func9 (by decide) rfl) rfl rfl rfl (call_any (A := _) wS1 rl.a ro.a rl.c ro.c wC2 none 0 [] wOf 0 (fun W M9 => ⟨M9.readAll 1 rfl (by unfold maxLen; decide), M9.readAll 2 rfl (by unfold maxLen; decide)⟩) M (by decide) wI1.ok.well.shok bs_nil) ?_
  rintro _ w10 hst
  obtain ⟨rl2, ro2, rm2, ra2, rs2, rc2, re2, rfl, M1⟩ := hst.known (fun h => h ⟨wMay1, by decide, by decide⟩) (s1 := wS2) (t1 := wT2) (fun s t h => by obtain ⟨-, -, -, D', hD, rfl, rfl⟩ := h; rw [wk2R hD]; exact ⟨rfl, rfl⟩)
  refine ⟨_, rfl, ?_⟩; clear S M a; intro a S; have M := M1; clear M1
  refine st_go [1, 1, 1, 1] S rfl (by kernel_rfl) ?_; clear S a; intro a S
  refine st_alloc S M rfl rfl #[.slice none 0 0, .slice none 0 0, .slice none 0 0, .slice none 0 0, .slice none 0 0] (by kernel_rfl) ?_; clear S M a; intro a w11 bB S M hB
  refine st_store (sz := 4) (us := [_, _, _, _]) S M 17 rfl (by kernel_rfl) rfl rfl rfl rfl rfl rfl (by first | decide | (simp; done) | (simp; omega)) ?_; clear M; intro w12 M
  simp only [putL, List.set_cons_zero, List.set_cons_succ, Nat.reduceAdd] at M
  refine st_store (sz := 5) (us := [_, _, _, _, _]) S M 0 rfl (by kernel_rfl) rfl rfl rfl rfl rfl rfl (by first | decide | (simp; done) | (simp; omega)) ?_; clear M; intro w13 M
  simp only [putL, List.set_cons_zero, List.set_cons_succ, Nat.reduceAdd] at M
  refine st_go [1] S rfl (by kernel_rfl) ?_; clear S a; intro a S
  replace S := S.sub [(0, _), (1, _), (2, _), (3, _), (4, _), (5, _), (6, _), (7, _)] rfl
  refine nxC ?_
  refine wp_seq ?_
  refine nxD ?_
  refine st_go [1, 1, 1] S rfl (by kernel_rfl) ?_; clear S a; intro a S
  refine st_if (t := 38) S rfl ?_ ?_
  · clear S; intro h38 S
    exfalso; revert h38; decide
  clear S; intro h38 S
  refine st_go [1, 1, 1, 1] S rfl (by kernel_rfl) ?_; clear S a; intro a S
  refine st_if (t := 42) S rfl ?_ ?_
  · clear S; intro h42 S
    exfalso; revert h42; decide
  clear S; intro h42 S
  refine st_go [1, 1, 1, 1] S rfl (by kernel_rfl) ?_; clear S a; intro a S
  refine st_if (t := 46) S rfl ?_ ?_
  · clear S; intro h46 S
    exfalso; revert h46; decide
  clear S; intro h46 S
  refine st_run [2, 9] S M rfl (by kernel_rfl) ?_; clear S a; intro a S
  refine st_y S rfl rfl rfl (y_lenS (E := 69) S rfl (by kernel_rfl)) ?_; clear S a; intro a S
  refine st_go [1, 1, 1] S rfl (by kernel_rfl) ?_; clear S a; intro a S
  refine st_if (t := 52) S rfl ?_ ?_
  · clear S; intro h52 S
    exfalso; revert h52; decide
  clear S; intro h52 S
  refine st_run [2, 9] S M rfl (by kernel_rfl) ?_; clear S a; intro a S
  refine st_y S rfl rfl rfl (y_indexR (e := 69) (sz := 13) S (by kernel_rfl) rfl (M.readAll 12 rfl (by unfold maxLen; decide)) rfl (by first | omega | (simp; done) | (simp; omega))) ?_; clear S a; intro a S
  refine st_go [12] S rfl (by kernel_rfl) ?_; clear S a; intro a S
  refine st_y S rfl rfl rfl (y_load S (by kernel_rfl) rfl ((M.readAll 12 rfl (by unfold maxLen; decide)).at_.row (i := 0) (fm_get (x := ⟨3, 1, 0, zV8, 7, 0⟩) len_ans rfl) rfl 11 (by decide))) ?_; clear S a; intro a S
  refine st_go [1, 1, 1] S rfl (by kernel_rfl) ?_; clear S a; intro a S
  refine st_if (t := 60) S rfl ?_ ?_
  · clear S; intro h60 S
    exfalso; revert h60; decide
  clear S; intro h60 S
  refine st_run [1, 1] S M rfl (by kernel_rfl) ?_; clear S a; intro a S
  refine st_y S rfl rfl rfl (y_lenS (E := 45) S rfl (by kernel_rfl)) ?_; clear S a; intro a S
  refine st_go [1, 1] S rfl (by kernel_rfl) ?_; clear S a; intro a S
  replace S := S.sub [(0, _), (1, _), (2, _), (3, _), (4, _), (5, _), (6, _), (7, _), (65, _)] rfl
  refine nxC ?_
  refine st_if (t := 65) S rfl ?_ ?_
  · clear S; intro h65 S
    exfalso; revert h65; decide
  clear S; intro h65 S
  refine st_condF S rfl ?_
  refine wp_skip ?_
  refine nxE ?_
  refine st_run [1, 1] S M rfl (by kernel_rfl) ?_; clear S a; intro a S
  refine st_y S rfl rfl rfl (y_indexR (e := 45) (sz := 24) S (by kernel_rfl) rfl (M.readAll 3 rfl (by unfold maxLen; decide)) rfl (by first | omega | (simp; done) | (simp; omega))) ?_; clear S a; intro a S
  refine st_y S rfl rfl rfl (y_loadAgg S (by kernel_rfl) rfl rfl ((M.readAll 3 rfl (by unfold maxLen; decide)).at_.row (i := 0) (fm_get (x := wM) len_msg rfl) rfl)) ?_; clear S a; intro a S
  refine st_alloc S M rfl rfl #[.int .i8 0, .int .i64 0, .int .i64 0, .int .i64 0, .int .i64 0, .int .i64 0, .int .i64 0, .int .i64 0, .int .i64 0, .int .i8 0, .int .i64 0, .int .u8 0, .int .u8 0, .int .u8 0, .int .u8 0, .int .u8 0, .int .u8 0, .int .u8 0, .int .u8 0, .int .i64 0, .bool false, .int .i64 0, .int .i64 0, .slice none 0 0] (by kernel_rfl) ?_; clear S M a; intro a w14 bM S M hB
  refine st_store (sz := 24) (us := [_, _, _, _, _, _, _, _, _, _, _, _, _, _, _, _, _, _, _, _, _, _, _, _]) S M 0 rfl (by kernel_rfl) rfl rfl rfl rfl rfl rfl (by first | decide | (simp; done) | (simp; omega)) ?_; clear M; intro w15 M
  simp only [putL, List.set_cons_zero, List.set_cons_succ, Nat.reduceAdd] at M
  refine nxA ?_
  refine st_go [6] S rfl (by kernel_rfl) ?_; clear S a; intro a S
  refine st_y S rfl rfl rfl (y_loadAgg (cs := [_, _, _]) S (by kernel_rfl) rfl rfl (M.cellsAt (k := 3) 0 rfl rfl)) ?_; clear S a; intro a S
  refine st_y S rfl rfl rfl (y_buildA (ps := [(0, (Operand.const (Value.int IntKind.u8 4)))]) (sz := 1) (z := [.int .u8 0, .int .u8 0, .int .u8 0, .int .u8 0, .int .u8 0, .int .u8 0, .int .u8 0, .int .u8 0]) (cs := [_, _, _, _, _, _, _, _]) S (by kernel_rfl) rfl rfl) ?_; clear S a; intro a S
  refine st_y S rfl rfl rfl (y_build (ps := [(0, (Operand.const (Value.int IntKind.i8 3))), (1, (Operand.const (Value.int IntKind.i64 2))), (3, (Operand.const (Value.int IntKind.i64 1))), (4, (Operand.const (Value.int IntKind.i64 1))), (5, (Operand.tmp 71)), (6, (Operand.const (Value.int IntKind.i64 1))), (9, (Operand.tmp 72))]) (pl := [(0, 1), (1, 1), (2, 1), (3, 1), (4, 1), (5, 3), (8, 1), (9, 1), (10, 1), (11, 8), (19, 1), (20, 1), (21, 1), (22, 1), (23, 1)]) (z := [.int .i8 0, .int .i64 0, .int .i64 0, .int .i64 0, .int .i64 0, .int .i64 0, .int .i64 0, .int .i64 0, .int .i64 0, .int .i8 0, .int .i64 0, .int .u8 0, .int .u8 0, .int .u8 0, .int .u8 0, .int .u8 0, .int .u8 0, .int .u8 0, .int .u8 0, .int .i64 0, .bool false, .int .i64 0, .int .i64 0, .slice none 0 0]) (cs := [_, _, _, _, _, _, _, _, _, _, _, _, _, _, _, _, _, _, _, _, _, _, _, _]) S (by kernel_rfl) rfl (rfl)) ?_; clear S a; intro a S
  refine st_alloc S M rfl rfl #[.int .i8 0, .int .i64 0, .int .i64 0, .int .i64 0, .int .i64 0, .int .i64 0, .int .i64 0, .int .i64 0, .int .i64 0, .int .i8 0, .int .i64 0, .int .u8 0, .int .u8 0, .int .u8 0, .int .u8 0, .int .u8 0, .int .u8 0, .int .u8 0, .int .u8 0, .int .i64 0, .bool false, .int .i64 0, .int .i64 0, .slice none 0 0] (by kernel_rfl) ?_; clear S M a; intro a w16 bD S M hB
  refine st_store (sz := 24) (us := [_, _, _, _, _, _, _, _, _, _, _, _, _, _, _, _, _, _, _, _, _, _, _, _]) S M 0 rfl (by kernel_rfl) rfl rfl rfl rfl rfl rfl (by first | decide | (simp; done) | (simp; omega)) ?_; clear M; intro w17 M
  simp only [putL, List.set_cons_zero, List.set_cons_succ, Nat.reduceAdd] at M
  refine nxA ?_
  refine st_y S rfl rfl rfl (y_loadAgg (cs := [_, _, _, _]) S (by kernel_rfl) rfl rfl (M.cellsAt (k := 4) 19 rfl rfl)) ?_; clear S a; intro a S
  refine st_y S rfl rfl rfl (y_loadAgg (cs := [_, _, _, _, _, _, _, _, _, _, _, _, _, _, _, _, _, _, _, _, _, _, _, _]) S (by kernel_rfl) rfl rfl (M.cellsAt (k := 24) 0 rfl rfl)) ?_; clear S a; intro a S
  refine st_y S rfl rfl rfl (y_loadAgg (cs := [_, _, _, _, _, _, _, _]) S (by kernel_rfl) rfl rfl (M.cellsAt (k := 8) 18 rfl rfl)) ?_; clear S a; intro a S
  refine st_call (xs := [(Operand.tmp 75), (Operand.tmp 76), (Operand.tmp 77)]) S (enters_of Try.func10 (by decide) rfl) rfl rfl rfl (hear_any (A := _) wS2 rl2.a ro2.a rl2.c ro2.c wD none 0 [] wOf (fun W M9 => ⟨M9.readAll 3 rfl (by unfold maxLen; decide), M9.readAll 4 rfl (by unfold maxLen; decide)⟩) M (by decide) wSh2 (fun W _ => Rd.nil _ _ _ _)) ?_
  rintro _ w18 hst
  obtain ⟨rl3, ro3, rm3, ra3, rs3, rc3, re3, rfl, M1⟩ := hst.known (fun h => h ⟨wMay2, wDmay⟩) (s1 := wS3) (t1 := wT3) (fun s t h => wk3R h.2.2)
  refine ⟨_, rfl, ?_⟩; clear S M a; intro a S; have M := M1; clear M1
  refine st_go [1, 1, 1, 1] S rfl (by kernel_rfl) ?_; clear S a; intro a S
  refine st_alloc S M rfl rfl #[.slice none 0 0, .slice none 0 0, .slice none 0 0, .slice none 0 0, .slice none 0 0] (by kernel_rfl) ?_; clear S M a; intro a w19 bC S M hB
  refine st_store (sz := 4) (us := [_, _, _, _]) S M 27 rfl (by kernel_rfl) rfl rfl rfl rfl rfl rfl (by first | decide | (simp; done) | (simp; omega)) ?_; clear M; intro w20 M
  simp only [putL, List.set_cons_zero, List.set_cons_succ, Nat.reduceAdd] at M
  refine st_store (sz := 5) (us := [_, _, _, _, _]) S M 0 rfl (by kernel_rfl) rfl rfl rfl rfl rfl rfl (by first | decide | (simp; done) | (simp; omega)) ?_; clear M; intro w21 M
  simp only [putL, List.set_cons_zero, List.set_cons_succ, Nat.reduceAdd] at M
  refine st_go [1] S rfl (by kernel_rfl) ?_; clear S a; intro a S
  replace S := S.sub [(0, _), (1, _), (2, _), (3, _), (4, _), (5, _), (6, _), (7, _), (65, _), (8, _), (9, _), (10, _), (11, _)] rfl
  refine nxA ?_
  refine st_y S rfl rfl rfl (y_loadAgg (cs := [_, _, _, _]) S (by kernel_rfl) rfl rfl (M.cellsAt (k := 4) 27 rfl rfl)) ?_; clear S a; intro a S
  refine st_y S rfl rfl rfl (y_build (ps := [(0, (Operand.const (Value.int IntKind.i8 3))), (1, (Operand.const (Value.int IntKind.i64 3))), (2, (Operand.const (Value.int IntKind.i64 1)))]) (pl := [(0, 1), (1, 1), (2, 1), (3, 1), (4, 1), (5, 1)]) (z := [.int .i8 0, .int .i64 0, .int .i64 0, .int .i64 0, .slice none 0 0, .int .i64 0]) (cs := [_, _, _, _, _, _]) S (by kernel_rfl) rfl (rfl)) ?_; clear S a; intro a S
  refine st_y S rfl rfl rfl (y_loadAgg (cs := [_, _, _, _, _, _, _, _]) S (by kernel_rfl) rfl rfl (M.cellsAt (k := 8) 26 rfl rfl)) ?_; clear S a; intro a S
  refine st_call (xs := [(Operand.tmp 83), (Operand.tmp 84), (Operand.tmp 85), (Operand.const (Value.int IntKind.i64 0))]) S (enters_of Try.func9 (by decide) rfl) rfl rfl rfl (call_any (A := _) wS3 rl3.a ro3.a rl3.c ro3.c wC3 none 0 [] wOf 0 (fun W M9 => ⟨M9.readAll 1 rfl (by unfold maxLen; decide), M9.readAll 2 rfl (by unfold maxLen; decide)⟩) M (by decide) wSh3 bs_nil) ?_
  rintro _ w22 hst
  obtain ⟨rl4, ro4, rm4, ra4, rs4, rc4, re4, rfl, M1⟩ := hst.known (fun h => h ⟨wMay3, by decide, by decide⟩) (s1 := wS4) (t1 := wT4) (fun s t h => by obtain ⟨-, -, -, D', hD, rfl, rfl⟩ := h; rw [wk4R hD]; exact ⟨rfl, rfl⟩)
  refine ⟨_, rfl, ?_⟩; clear S M a; intro a S; have M := M1; clear M1
  refine st_go [1, 1, 1, 1] S rfl (by kernel_rfl) ?_; clear S a; intro a S
  refine st_alloc S M rfl rfl #[.slice none 0 0, .int .i64 0, .int .i64 0, .slice none 0 0] (by kernel_rfl) ?_; clear S M a; intro a w23 bX S M hB
  refine st_alloc S M rfl rfl #[.slice none 0 0, .slice none 0 0, .slice none 0 0, .slice none 0 0, .slice none 0 0] (by kernel_rfl) ?_; clear S M a; intro a w24 bY S M hB
  refine st_store (sz := 4) (us := [_, _, _, _]) S M 1 rfl (by kernel_rfl) rfl rfl rfl rfl rfl rfl (by first | decide | (simp; done) | (simp; omega)) ?_; clear M; intro w25 M
  simp only [putL, List.set_cons_zero, List.set_cons_succ, Nat.reduceAdd] at M
  refine st_store (sz := 5) (us := [_, _, _, _, _]) S M 0 rfl (by kernel_rfl) rfl rfl rfl rfl rfl rfl (by first | decide | (simp; done) | (simp; omega)) ?_; clear M; intro w26 M
  simp only [putL, List.set_cons_zero, List.set_cons_succ, Nat.reduceAdd] at M
  refine st_go [1] S rfl (by kernel_rfl) ?_; clear S a; intro a S
  refine nxA ?_
  refine st_run [3, 19, 1, 1] S M rfl (by kernel_rfl) ?_; clear S a; intro a S
  refine st_fi (t := 93) S rfl ?_ ?_
  · clear S; intro h93 S
    exfalso; revert h93; decide
  clear S; intro h93 S
  refine st_run [9, 19, 1, 1, 1] S M rfl (by kernel_rfl) ?_; clear S a; intro a S
  refine st_fi (t := 98) S rfl ?_ ?_
  · clear S; intro h98 S
    exfalso; revert h98; decide
  clear S; intro h98 S
  refine st_go [1, 1, 1, 1] S rfl (by kernel_rfl) ?_; clear S a; intro a S
  refine st_fi (t := 102) S rfl ?_ ?_
  · clear S; intro h102 S
    exfalso; revert h102; decide
  clear S; intro h102 S
  refine st_go [1, 1, 1, 1] S rfl (by kernel_rfl) ?_; clear S a; intro a S
  refine st_fi (t := 106) S rfl ?_ ?_
  · clear S; intro h106 S
    exfalso; revert h106; decide
  clear S; intro h106 S
  refine st_run [2, 10] S M rfl (by kernel_rfl) ?_; clear S a; intro a S
  refine st_y S rfl rfl rfl (y_lenS (E := 69) S rfl (by kernel_rfl)) ?_; clear S a; intro a S
  refine st_go [1, 1, 1] S rfl (by kernel_rfl) ?_; clear S a; intro a S
  refine st_fi (t := 112) S rfl ?_ ?_
  · clear S; intro h112 S
    exfalso; revert h112; decide
  clear S; intro h112 S
  refine st_run [2, 10] S M rfl (by kernel_rfl) ?_; clear S a; intro a S
  refine st_y S rfl rfl rfl (y_indexR (e := 69) (sz := 13) S (by kernel_rfl) rfl (M.readAll 13 rfl (by unfold maxLen; decide)) rfl (by first | omega | (simp; done) | (simp; omega))) ?_; clear S a; intro a S
  refine st_go [4] S rfl (by kernel_rfl) ?_; clear S a; intro a S
  refine st_y S rfl rfl rfl (y_indexA (m := 8) (sz := 1) S (by kernel_rfl) rfl rfl (by first | omega | (simp; done) | (simp; omega))) ?_; clear S a; intro a S
  refine st_y S rfl rfl rfl (y_load S (by kernel_rfl) rfl ((M.readAll 13 rfl (by unfold maxLen; decide)).at_.row (i := 0) (fm_get (x := ⟨3, 1, 0, wV, 7, 1⟩) len_ans rfl) rfl 3 (by decide))) ?_; clear S a; intro a S
  refine st_go [1, 1, 1] S rfl (by kernel_rfl) ?_; clear S a; intro a S
  refine st_fi (t := 121) S rfl ?_ ?_
  · clear S; intro h121 S
    exfalso; revert h121; decide
  clear S; intro h121 S
  refine st_run [1, 1] S M rfl (by kernel_rfl) ?_; clear S a; intro a S
  refine st_y S rfl rfl rfl (y_lenS (E := 45) S rfl (by kernel_rfl)) ?_; clear S a; intro a S
  refine st_go [1, 1, 1] S rfl (by kernel_rfl) ?_; clear S a; intro a S
  refine st_fi (t := 127) S rfl ?_ ?_
  · clear S; intro h127 S
    exfalso; revert h127; decide
  clear S; intro h127 S
  refine st_run [1, 1] S M rfl (by kernel_rfl) ?_; clear S a; intro a S
  refine st_y S rfl rfl rfl (y_indexR (e := 45) (sz := 24) S (by kernel_rfl) rfl (M.readAll 4 rfl (by unfold maxLen; decide)) rfl (by first | omega | (simp; done) | (simp; omega))) ?_; clear S a; intro a S
  refine st_go [1] S rfl (by kernel_rfl) ?_; clear S a; intro a S
  refine st_y S rfl rfl rfl (y_load S (by kernel_rfl) rfl ((M.readAll 4 rfl (by unfold maxLen; decide)).at_.row (i := 0) (fm_get (x := ⟨9, 0, 2, 0, 0, wN, 0, 0, 0, zV8, 0, false, 0, 0⟩) len_msg rfl) rfl 0 (by decide))) ?_; clear S a; intro a S
  refine st_go [1, 1, 1] S rfl (by kernel_rfl) ?_; clear S a; intro a S
  replace S := S.sub [(1, _), (2, _), (3, _), (4, _), (5, _), (6, _), (7, _), (65, _), (8, _), (9, _), (10, _), (11, _), (13, _), (14, _), (0, _)] rfl
  refine nxC ?_
  refine wp_ret ?_
  refine end_one S rfl (res_tmp rfl) ?_
  exact ⟨rfl, M.below⟩
end Go.Proofs.Ytniijiipkfhjgaa

namespace Go.Proofs.Ytniijiipkfhjgaa
open Go.RowKit Go.Sort
abbrev encNm (p : Nm) : Value := .agg (nmL p).toArray
abbrev enc2 (p : Int × Int) : Value := .agg #[.int .i64 p.1, .int .i64 p.2]
theorem equal2 (d : Nat) (p q : Int × Int) (w : World) : (Op.equalIn (d + 2) 62 (enc2 p) (enc2 q)).run Try.prog w = .ok (decide (p = q)) w := by
  have e : decide (p = q) = (p.1 == q.1 && p.2 == q.2) := by
    rw [Bool.eq_iff_iff, decide_eq_true_eq, Bool.and_eq_true, beq_iff_eq, beq_iff_eq, Prod.ext_iff]
  rw [e]
  obtain ⟨i, hi⟩ := Option.isSome_iff_exists.1 (show (Try.prog.info? 3).isSome = true by kernel_rfl)
  have hc : Try.prog.cellsOf 3 = 1 := by kernel_rfl
  rw [run_equalIn_array w (d + 1) _ _ Try.underlying62 hi, hc]
  simp only [List.range, List.range.loop, Op.eqItems, part, isAgg, Sem.run_bind, run_underlying Try.underlying3, Result.andThen_ok]
  simp [run_equalIn_int w d 3 .i64 .i64 _ _ Try.underlying3]
  (repeat' split) <;> simp_all
theorem check2 (b : Bool) (p : Int × Int) (w : World) : (Instr.checkKey b 10000 62 (enc2 p)).run Try.prog w = .ok () w := by
  kernel_rfl
theorem key2 : KeyT Try.prog 62 enc2 := by
  refine ⟨fun k l w h => ?_, check2, fun p => by rw [show (10000 : Nat) = 9999 + 1 from rfl]; simp [Instr.sameBits]⟩
  have hask : ∀ (l : Mes (Int × Int)) (i : Nat), (∀ p ∈ l, p.2.key = enc2 p.1) → (Instr.findAsking 62 (enc2 k) (l.map (·.2)) i).run Try.prog w = .ok (posK k l i) w := by
    intro l
    induction l with
    | nil => intro i _; rfl
    | cons p l ih =>
      intro i h
      have e : (Op.equal 62 (enc2 k) (enc2 p.1)).run Try.prog w = .ok (decide (k = p.1)) w := equal2 9998 k p.1 w
      rw [List.map_cons, Instr.findAsking, h p (List.mem_cons_self ..), Sem.run_bind, e]
      simp only [Result.andThen, posK]
      by_cases hk : k = p.1
      · rw [decide_eq_true hk, if_pos hk.symm]; rfl
      · rw [decide_eq_false hk, if_neg (show ¬ p.1 = k from fun e => hk e.symm)]
        exact ih (i + 1) fun q hq => h q (List.mem_cons_of_mem _ hq)
  simp only [Instr.findKey, Sem.run_bind, run_underlying Try.underlying62, Result.andThen]
  cases l with
  | nil => rfl
  | cons p l =>
    have e : ∀ n t, Instr.findNow (.array n t) (enc2 k) ((p :: l).map (·.2)) 0 = none := fun n t => by
      rw [List.map_cons, Instr.findNow]; rfl
    rw [e]
    exact hask (p :: l) 0 h
end Go.Proofs.Ytniijiipkfhjgaa

namespace Go.Proofs.Ytniijiipkfhjgaa
open Go.RowKit Go.Sort
def CV2 (ml : Mes (Int × Int)) (g : Int → Int → Int) : Prop := ∀ a b, (getM ml (a, b)).getD (.int .i64 0) = .int .i64 (g a b)
theorem CV2.put {ml : Mes (Int × Int)} {g : Int → Int → Int} {c : Nat} (h : CV2 ml g) (a b v : Int) : CV2 (putM enc2 ml c (a, b) (.int .i64 v)).1 (put2 g a b v) := fun x y => by
  rw [get_put]
  unfold put2
  by_cases e : x = a ∧ y = b
  · rw [if_pos e, if_pos (by rw [e.1, e.2])]; rfl
  · rw [if_neg e, if_neg (fun e2 => e ⟨congrArg Prod.fst e2, congrArg Prod.snd e2⟩)]; exact h x y
theorem CV2.nil : CV2 [] (fun _ _ => 0) := fun _ _ => rfl
/-- these are the map's keys -/
def CVB (ml : Mes Nm) (B : List Nm) : Prop := ∀ n, n ∈ ml.map (·.1) ↔ n ∈ B
theorem keys_put {κ : Type} [DecidableEq κ] {enc : κ → Value} (l : Mes κ) (c : Nat) (k n : κ) (v : Value) : n ∈ (putM enc l c k v).1.map Prod.fst ↔ n ∈ l.map Prod.fst ∨ n = k := by
  unfold putM
  split
  · rename_i h
    have : (setM l k v).map Prod.fst = l.map Prod.fst := by
      unfold setM
      rw [List.map_map]
      refine List.map_congr_left fun p _ => ?_
      show (if p.1 = k then (p.1, { p.2 with val := v }) else p).1 = p.1
      split <;> rfl
    show n ∈ (setM l k v).map Prod.fst ↔ _
    rw [this]
    exact ⟨.inl, fun e => e.elim id fun e => by rw [e]; exact h⟩
  · show n ∈ (l ++ [_]).map Prod.fst ↔ _
    simp
theorem CVB.put {ml : Mes Nm} {B : List Nm} {c : Nat} (h : CVB ml B) (k : Nm) (v : Value) : CVB (putM encNm ml c k v).1 (B ++ [k]) := fun n => by
  rw [keys_put, h n]; simp
theorem CVB.nil : CVB [] [] := fun _ => Iff.rfl
/-- these names are told 1, the others 0 -/
def CVO (ml : Mes Nm) (O : List Nm) : Prop := ∀ n, (getM ml n).getD (.int .i64 0) = .int .i64 (if n ∈ O then 1 else 0)
theorem CVO.put {ml : Mes Nm} {O : List Nm} {c : Nat} (h : CVO ml O) (k : Nm) : CVO (putM encNm ml c k (.int .i64 1)).1 (O ++ [k]) := fun n => by
  rw [get_put]
  by_cases e : n = k
  · rw [if_pos e, if_pos (by rw [e]; simp)]; rfl
  · rw [if_neg e, h n]
    have : n ∈ O ++ [k] ↔ n ∈ O := by simp [e]
    simp only [this]
theorem CVO.nil : CVO [] [] := fun _ => rfl
theorem NumR.weak {s s' : Ses} {t' : Tol} {g T : Int → Int → Int} {c : Cal} {p q : Prop} (h : NumR s s' t' g T c p) (hq : q → p) : NumR s s' t' g T c q := by
  obtain ⟨h1, h2⟩ := h
  refine ⟨fun k m hm hk => ?_, h2⟩
  obtain ⟨a, b, c, d, e⟩ := h1 k m hm hk
  exact ⟨a, b, c, fun x => d (hq x), e⟩
/-! how long a session is -/
def Ses.size (s : Ses) : Nat := s.over.length + s.l.length
theorem size_set (s : Ses) (i : Nat) (o : Ope) : Ses.size { s with l := s.l.set i o } = s.size := by
  show s.over.length + (s.l.set i o).length = _
  rw [List.length_set]; rfl
theorem size_end (s : Ses) {i : Nat} {o : Ope} (ho : s.l[i]? = some o) (er : Int) : (s.end_ i o er).size = s.size := by
  have := (List.getElem?_eq_some_iff.1 ho).1
  show (s.over ++ [_]).length + (s.l.eraseIdx i).length = s.over.length + s.l.length
  rw [List.length_append, List.length_eraseIdx, if_pos this]; simp; omega
theorem size_touch (D : Dsk) (i : Nat) (o : Ope) (c : Cal) (bs : List UInt8) : (D.touch i o c bs).s.size = D.s.size := by
  unfold Dsk.touch
  split
  · rfl
  · split
    · rfl
    · split
      · exact size_set _ _ _
      · rfl
theorem size_commit (D : Dsk) {i : Nat} {o : Ope} (ho : D.s.l[i]? = some o) : (D.commit i o).s.size = D.s.size := by
  unfold Dsk.commit Dsk.commit0
  split
  · exact size_end _ ho _
  · split
    · exact size_set _ _ _
    · exact size_set _ _ _
theorem size_did (D : Dsk) {i : Nat} {o : Ope} (ho : D.s.l[i]? = some o) (m : Msg) : (D.did i o m).s.size = D.s.size := by
  unfold Dsk.did
  split
  · exact size_set _ _ _
  · split
    · exact size_set _ _ _
    · exact size_end _ ho _
theorem size_call {s : Ses} {of : Of8} {c : Cal} {bs : List UInt8} {st : Int} {D' : Dsk} (hR : Dsk.DoesR ⟨s, Tol.none, of⟩ c bs st D') : D'.s.size ≤ s.size + 1 := by
  rcases hR with ⟨h0, rfl⟩ | ⟨h0, ⟨⟨er, rfl⟩, -⟩ | ⟨i, o, ho, e1, e2, hph, hD⟩⟩
  · unfold Dsk.begin
    split
    · show s.over.length + (s.l ++ [_]).length ≤ s.over.length + s.l.length + 1
      rw [List.length_append]; simp; omega
    · exact Nat.le_succ _
  · exact Nat.le_succ _
  · rcases hD with ⟨-, rfl⟩ | ⟨h4, rfl⟩ | ⟨-, rfl⟩
    · rw [size_commit _ ho]; exact Nat.le_succ _
    · show (Ses.end_ s i o 4).size ≤ _; rw [size_end _ ho]; exact Nat.le_succ _
    · rw [size_touch]; exact Nat.le_succ _
theorem size_hear {s s' : Ses} {of : Of8} {m : Msg} {t' : Tol} (hR : HearR s of m s' t') : s'.size = s.size := by
  rcases hR with ⟨rfl, rfl, -⟩ | ⟨i, o, D', ho, -, rfl, rfl, hD⟩
  · rfl
  · rcases hD with ⟨-, h1, -, -, rfl⟩ | ⟨-, h1, -, rfl⟩
    · exact size_did _ ho m
    · exact size_end _ ho _
theorem size_endR {s s' : Ses} {n : Nm} {er : Int} {t' : Tol} (hR : EndR s n er s' t') : s'.size = s.size := by
  obtain ⟨i, o, D', ho, -, hph, rfl, rfl, hD⟩ := hR
  rcases hD with ⟨-, rfl⟩ | ⟨-, rfl⟩ | ⟨-, rfl⟩
  · exact size_end _ ho _
  · exact size_end _ ho _
  · exact size_end _ ho _
theorem size_anew {s : Ses} {sh i : Nat} {D : Dsk} (hA : AnewTo s sh i D) : D.s.size = s.size := by
  induction hA with
  | start => rfl
  | pass _ _ _ ih => exact ih
  | @lose i D o hA ho h1 h2 ih =>
    unfold Dsk.lost
    split
    · exact (size_end D.s ho 121).trans ih
    · exact (size_end D.s ho 122).trans ih
/-- what is told is short -/
def Tol.short (t : Tol) : Prop := t.mail.length ≤ 100 ∧ t.ans.length ≤ 100 ∧ t.seen.length ≤ 100
theorem short_refuse {D : Dsk} {o : Ope} {but : Int} {i : Nat} {o' : Ope} {kd er an : Int} {told : Bool} (h : D.t.mail.length ≤ 50 ∧ D.t.ans.length ≤ 50 ∧ D.t.seen.length ≤ 50) : ((D.mails (refuseP o but 4)).ended i o' kd er an told).t.short := by
  have hp := refuseP_len o but 4
  refine ⟨?_, ?_, ?_⟩
  · show (D.t.mail ++ refuseP o but 4).length ≤ 100; rw [List.length_append]; omega
  · show (D.t.ans ++ (if told = true then [_] else [])).length ≤ 100; rw [List.length_append]; split <;> simp <;> omega
  · show (D.t.seen ++ [_]).length ≤ 100; rw [List.length_append]; simp; omega
theorem short_ended {D : Dsk} {i : Nat} {o' : Ope} {kd er an : Int} {told : Bool} (h : D.t.mail.length ≤ 50 ∧ D.t.ans.length ≤ 50 ∧ D.t.seen.length ≤ 50) : (D.ended i o' kd er an told).t.short := by
  refine ⟨?_, ?_, ?_⟩
  · show D.t.mail.length ≤ 100; omega
  · show (D.t.ans ++ (if told = true then [_] else [])).length ≤ 100; rw [List.length_append]; split <;> simp <;> omega
  · show (D.t.seen ++ [_]).length ≤ 100; rw [List.length_append]; simp; omega
theorem short_none : Tol.none.mail.length ≤ 50 ∧ Tol.none.ans.length ≤ 50 ∧ Tol.none.seen.length ≤ 50 := ⟨Nat.zero_le _, Nat.zero_le _, Nat.zero_le _⟩
theorem short_call {s : Ses} {of : Of8} {c : Cal} {bs : List UInt8} {st : Int} {D' : Dsk} (hR : Dsk.DoesR ⟨s, Tol.none, of⟩ c bs st D') : D'.t.short := by
  have href : ∀ (c' : Cal) er, (Dsk.refused ⟨s, Tol.none, of⟩ c' er).t.short := fun c' er => ⟨Nat.zero_le _, by show 1 ≤ 100; omega, Nat.zero_le _⟩
  rcases hR with ⟨h0, rfl⟩ | ⟨h0, ⟨⟨er, rfl⟩, -⟩ | ⟨i, o, ho, e1, e2, hph, hD⟩⟩
  · unfold Dsk.begin
    split
    · exact ⟨Nat.zero_le _, by show 1 ≤ 100; omega, by show 1 ≤ 100; omega⟩
    · exact href _ _
  · exact href _ _
  · rcases hD with ⟨-, rfl⟩ | ⟨h4, rfl⟩ | ⟨-, rfl⟩
    · unfold Dsk.commit Dsk.commit0
      split
      · exact short_ended ⟨Nat.zero_le _, Nat.zero_le _, by show 2 ≤ 50; omega⟩
      · split
        · exact ⟨by show 1 ≤ 100; omega, Nat.zero_le _, by show 1 ≤ 100; omega⟩
        · exact ⟨Nat.zero_le _, Nat.zero_le _, by show 1 ≤ 100; omega⟩
    · exact short_refuse short_none
    · unfold Dsk.touch
      split
      · exact href _ _
      · split
        · exact href _ _
        · split
          · exact ⟨by show 1 ≤ 100; omega, Nat.zero_le _, Nat.zero_le _⟩
          · exact href _ _
theorem short_hear {s s' : Ses} {of : Of8} {m : Msg} {t' : Tol} (hR : HearR s of m s' t') : t'.short := by
  rcases hR with ⟨rfl, rfl, -⟩ | ⟨i, o, D', ho, -, rfl, rfl, hD⟩
  · exact ⟨Nat.zero_le _, Nat.zero_le _, Nat.zero_le _⟩
  · rcases hD with ⟨-, h1, -, -, rfl⟩ | ⟨-, h1, -, rfl⟩
    · unfold Dsk.did
      split
      · exact ⟨Nat.zero_le _, by show 1 ≤ 100; omega, by show 1 ≤ 100; omega⟩
      · split
        · exact ⟨by show 1 ≤ 100; omega, Nat.zero_le _, Nat.zero_le _⟩
        · exact short_refuse short_none
    · exact short_ended short_none
theorem short_endR {s s' : Ses} {n : Nm} {er : Int} {t' : Tol} (hR : EndR s n er s' t') : t'.short := by
  obtain ⟨i, o, D', ho, -, hph, rfl, rfl, hD⟩ := hR
  rcases hD with ⟨-, rfl⟩ | ⟨-, rfl⟩ | ⟨-, rfl⟩
  · exact short_ended short_none
  · exact short_refuse short_none
  · exact short_ended short_none
theorem short_tick {s : Ses} (h : s.l.length ≤ 8) : Tol.short { Tol.none with mail := tickP s.l } := ⟨by have := tickP_len s.l; show (tickP s.l).length ≤ 100; omega, Nat.zero_le _, Nat.zero_le _⟩
theorem short_anew {s : Ses} (hl : s.l.length ≤ 8) (hs : s.size ≤ 500) {sh i : Nat} {D : Dsk} (hA : AnewTo s sh i D) : D.t.short := by
  have : AnewB D := by
    induction hA with
    | start => exact ⟨by show 0 + 4 * s.l.length ≤ 32; omega, by unfold Ses.size at hs; show s.over.length + s.l.length ≤ 508; omega, by show 0 + s.l.length ≤ 8; omega, by show 0 + s.l.length ≤ 8; omega, Nat.le_refl _, Nat.le_refl _⟩
    | pass _ _ _ ih => exact ih
    | lose _ ho _ _ ih => exact ih.lost (List.getElem?_eq_some_iff.1 ho).1
  exact ⟨by have := this.mail; omega, by have := this.ans; omega, by have := this.seen; omega⟩
/-- what one act does, for the law of numbers -/
structure NumS (s s' : Ses) (t' : Tol) (g T : Int → Int → Int) (q : Act_) (u : Int → Int) : Prop where
  num : NumR s s' t' g T q.c (q.do_ = 3)
  si : ∃ f B O, SI s' f B O u
  size : s'.size ≤ s.size + 1
  short : t'.short
/-- a new stamp is new -/
def Fresh24 (s : Ses) (q : Act_) (u : Int → Int) : Prop := q.c.kind = 0 → q.c.stamp = 0 → (∀ o ∈ s.l, o.nm.stamp ≠ q.stamp) ∧ (∀ x ∈ s.over, x.stamp ≠ q.stamp) ∧ 1 ≤ u q.stamp
section
variable {s s' : Ses} {t' : Tol} {g T : Int → Int → Int} {u : Int → Int} {q : Act_} {f : Int → Int} {B O : List Nm}
theorem NumS.call (h : SI s f B O u) (hN : NI s g T) (of : Of8) (hu : Fresh24 s q u) (hd : q.do_ = 0)
    (hR : s.May ∧ (0 ≤ q.c.kind ∧ q.c.kind ≤ 4) ∧ (0 ≤ q.stamp ∧ q.stamp ≤ 1048576) ∧ ∃ D', Dsk.DoesR ⟨s, Tol.none, of⟩ q.c q.bs q.stamp D' ∧ s' = D'.s ∧ t' = D'.t) : NumS s s' t' g T q u := by
  obtain ⟨-, hk, hst, D', hD, rfl, rfl⟩ := hR
  have hDI := h.call of q.c q.bs hk hst (fun a b => hu a b) hD
  exact ⟨(hN.call (h of).ok of q.c q.bs (fun a b => (hu a b).2.1) hDI.ok.well.apart hD).weak (fun e => by omega), ⟨_, _, _, hDI.next⟩, size_call hD, short_call hD⟩
theorem NumS.hear (h : SI s f B O u) (hN : NI s g T) (of : Of8) {m : Msg} (hd : q.do_ ≠ 3) (hR : HearR s of m s' t') : NumS s s' t' g T q u := by
  have hDI := h.hear hR
  exact ⟨(hN.hear q.c (h of).ok hDI.ok.well.apart hR).weak (fun e => absurd e hd), ⟨_, _, _, hDI.next⟩, by rw [size_hear hR]; exact Nat.le_succ _, short_hear hR⟩
theorem NumS.endR (h : SI s f B O u) (hN : NI s g T) {n : Nm} {er : Int} (hR : EndR s n er s' t') : NumS s s' t' g T q u := by
  have hDI := h.end_ hR
  exact ⟨hN.endR q.c _ (h zOf).ok hR, ⟨_, _, _, hDI.next⟩, by rw [size_endR hR]; exact Nat.le_succ _, short_endR hR⟩
theorem NumS.tick (h : SI s f B O u) (hN : NI s g T) (hR : s' = s ∧ t' = { Tol.none with mail := tickP s.l }) : NumS s s' t' g T q u := by
  obtain ⟨rfl, rfl⟩ := hR
  exact ⟨hN.tick q.c _ (h zOf).ok, ⟨_, _, _, h.tick.next⟩, Nat.le_succ _, short_tick (h zOf).ok.well.len⟩
theorem NumS.anew (h : SI s f B O u) (hN : NI s g T) (hz : s.size ≤ 500) {sh : Int} (hR : ∃ i D', AnewTo s sh.toNat i D' ∧ D'.s.l.length ≤ i ∧ s' = D'.s ∧ t' = D'.t) : NumS s s' t' g T q u := by
  obtain ⟨i, D', hA, -, rfl, rfl⟩ := hR
  exact ⟨hN.anew q.c _ h hA, ⟨_, _, _, (h.anew hA).1.next⟩, by rw [size_anew hA]; exact Nat.le_succ _, short_anew (h zOf).ok.well.len hz hA⟩
end
/-- what is held at the head of the law of numbers -/
structure NumI (k : Nat) (s : Ses) (g T : Int → Int → Int) (u : Int → Int) (m1 : Mes (Int × Int)) (c1 : Nat) (m2 : Mes (Int × Int)) (c2 : Nat) (mU : Mes Int) (cU : Nat) : Prop where
  si : ∃ f B O, SI s f B O u
  ni : NI s g T
  size : s.size ≤ k
  ub : ∀ z, 0 ≤ u z ∧ u z ≤ k
  g1 : Good enc2 m1 c1
  v1 : CV2 m1 g
  g2 : Good enc2 m2 c2
  v2 : CV2 m2 T
  gU : Good eN mU cU
  vU : CV mU u
/-- a new stamp, after `again` -/
theorem again_fresh {s : Ses} {u u' : Int → Int} {q : Act_} {f : Int → Int} {B O : List Nm} (h : SI s f B O u) (hub : ∀ z, 0 ≤ u z)
    (hc : ((q.do_ ≠ 0 ∨ q.c.kind ≠ 0 ∨ q.c.stamp ≠ 0) ∧ false = false ∧ u' = u) ∨ ((q.do_ = 0 ∧ q.c.kind = 0 ∧ q.c.stamp = 0) ∧ (u' = fun z => if z = q.stamp then u q.stamp + 1 else u z) ∧ false = decide (1 < u q.stamp + 1))) :
    (q.do_ = 0 → Fresh24 s q u') := by
  intro hd
  rcases hc with ⟨h1, -, rfl⟩ | ⟨h1, rfl, h3⟩
  · intro h4 h5; rcases h1 with h1 | h1 | h1
    · exact absurd hd h1
    · exact absurd h4 h1
    · exact absurd h5 h1
  · intro h4 h5
    have h6 : u q.stamp = 0 := by
      have := of_decide_eq_false h3.symm
      have := hub q.stamp
      omega
    have hok := (h zOf).ok
    refine ⟨fun o ho e => ?_, fun x hx e => ?_, ?_⟩
    · have := hok.usedL o ho; rw [e, h6] at this; omega
    · have := hok.usedO x hx; rw [e, h6] at this; omega
    · show 1 ≤ (if q.stamp = q.stamp then u q.stamp + 1 else u q.stamp)
      rw [if_pos rfl, h6]; omega
theorem again_up {u u' : Int → Int} {q : Act_} {r : Bool}
    (hc : ((q.do_ ≠ 0 ∨ q.c.kind ≠ 0 ∨ q.c.stamp ≠ 0) ∧ r = false ∧ u' = u) ∨ ((q.do_ = 0 ∧ q.c.kind = 0 ∧ q.c.stamp = 0) ∧ (u' = fun z => if z = q.stamp then u q.stamp + 1 else u z) ∧ r = decide (1 < u q.stamp + 1))) (z : Int) : u z ≤ u' z ∧ u' z ≤ u z + 1 := by
  rcases hc with ⟨-, -, rfl⟩ | ⟨-, rfl, -⟩
  · omega
  · show u z ≤ (if z = q.stamp then u q.stamp + 1 else u z) ∧ (if z = q.stamp then u q.stamp + 1 else u z) ≤ u z + 1
    split
    · rename_i e; rw [e]; omega
    · omega
theorem SI.mono {s : Ses} {u u' : Int → Int} {f : Int → Int} {B O : List Nm} (h : SI s f B O u) (hu : ∀ z, u z ≤ u' z) : SI s f B O u' := fun of => (h of).mono hu
theorem Mem.pre {w0 w : World} {H : List Ent} (M : Mem w0 w H) (n : Nat) : Mem w0 w (H.take n) := M.sub (List.take_sublist n H)
/-- behind one act, for the law of numbers -/
structure NumX (s : Ses) (g T : Int → Int → Int) (u : Int → Int) (q : Act_) (er : Int) (s' : Ses) (t' : Tol) (u2 : Int → Int) (mU : Mes Int) (cU : Nat) : Prop where
  up : ∀ z, u z ≤ u2 z ∧ u2 z ≤ u z + 1
  gU : Good eN mU cU
  vU : CV mU u2
  step : er = 0 → NumS s s' t' g T q u2
theorem NumI.keep {k : Nat} {s : Ses} {g T : Int → Int → Int} {u u2 : Int → Int} {m1 m2 : Mes (Int × Int)} {c1 c2 : Nat} {mU mU2 : Mes Int} {cU cU2 : Nat} (h : NumI k s g T u m1 c1 m2 c2 mU cU) (up : ∀ z, u z ≤ u2 z ∧ u2 z ≤ u z + 1) (gU : Good eN mU2 cU2) (vU : CV mU2 u2) : NumI (k + 1) s g T u2 m1 c1 m2 c2 mU2 cU2 := by
  obtain ⟨f, B, O, hs⟩ := h.si
  exact ⟨⟨f, B, O, hs.mono fun z => (up z).1⟩, h.ni, Nat.le_succ_of_le h.size, fun z => by have := h.ub z; have := up z; omega, h.g1, h.v1, h.g2, h.v2, gU, vU⟩
theorem NumI.next {k : Nat} {s s' : Ses} {t' : Tol} {g T : Int → Int → Int} {u u2 : Int → Int} {q : Act_} {er : Int} {m1 m2 m3 m4 : Mes (Int × Int)} {c1 c2 c3 c4 : Nat} {mU mU2 : Mes Int} {cU cU2 : Nat} (h : NumI k s g T u m1 c1 m2 c2 mU cU) (hX : NumX s g T u q er s' t' u2 mU2 cU2) (he : er = 0) {g2 T2 : Int → Int → Int} (hN : NI s' g2 T2)
    (g3 : Good enc2 m3 c3) (v3 : CV2 m3 g2) (g4 : Good enc2 m4 c4) (v4 : CV2 m4 T2) : NumI (k + 1) s' g2 T2 u2 m3 c3 m4 c4 mU2 cU2 := by
  have hS := hX.step he
  exact ⟨hS.si, hN, by have := hS.size; have := h.size; omega, fun z => by have := h.ub z; have := hX.up z; omega, g3, v3, g4, v4, hX.gU, hX.vU⟩
theorem NumI.start : NumI 0 ⟨[], 0, 1, []⟩ (fun _ _ => 0) (fun _ _ => 0) (fun _ => 0) [] 0 [] 0 [] 0 := by
  refine ⟨⟨_, _, _, SI.start⟩, ⟨fun o ho => absurd ho (by simp), fun _ _ _ => rfl, fun o ho => absurd ho (by simp), fun _ _ _ => rfl⟩, Nat.le_refl _, fun z => ⟨Int.le_refl _, by show (0 : Int) ≤ ((0 : Nat) : Int); omega⟩, good_nil 0, CV2.nil, good_nil 0, CV2.nil, good_nil 0, fun _ => rfl⟩
end Go.Proofs.Ytniijiipkfhjgaa

namespace Go.Proofs.Ytniijiipkfhjgaa
open Go.RowKit Go.Sort
set_option maxHeartbeats 8000000 in
theorem numbers_any (of0 : Of8) (va : Option Addr) (vc : Nat) (cs : List Value) (l : List Act_) (w : World) (hv : RowA cs 0 w.heap.size w (.slice va l.length vc) l) :
    Calls Try.prog 3 #[.agg of0.cellsL.toArray, .slice va l.length vc] w fun e w' => e = .returned (.bool true) ∧ Below w.heap.size w w' := by
  have M := Mem.start w
  have hvl := hv.1.2.1
  unfold maxLen at hvl
  refine calls_enter Try.func3 rfl 267 rfl rfl ?_; intro a S
  refine nxD ?_
  refine st_box S M rfl rfl rfl #[_, _, _, _, _, _, _, _] rfl ?_; clear S M a; intro a w1 bF S M hB
  refine st_go [1] S rfl (by kernel_rfl) ?_; clear S a; intro a S
  refine nxC ?_
  refine wp_seq ?_
  refine nxD ?_
  refine st_go [1] S rfl (by kernel_rfl) ?_; clear S a; intro a S
  refine st_call (xs := [(Operand.tmp 21)]) S (enters_of Try.func5 (by decide) rfl) rfl rfl rfl (great_any va vc cs l _ (M.actsW hv)) ?_
  rintro _ w2 ⟨bg, rfl, hK, hgr⟩; refine ⟨_, rfl, ?_⟩; clear S a; intro a S; replace M := M.grow hK
  refine nxC ?_
  refine st_if (t := 22) S rfl ?_ ?_
  · clear S; intro h22 S
    refine st_condT S rfl ?_
    refine nxD ?_
    refine st_call (xs := []) S (enters_of Try.func6 (by decide) rfl) rfl rfl rfl (wakes24_any _) ?_
    rintro _ w3 ⟨rfl, hK⟩; refine ⟨_, rfl, ?_⟩; clear S a; intro a S; replace M := M.grow hK
    refine st_go [1] S rfl (by kernel_rfl) ?_; clear S a; intro a S
    refine nxC ?_
    refine wp_ret ?_
    refine then_ret ?_
    refine end_one S rfl (res_tmp rfl) ?_
    first
      | exact ⟨rfl, M.below⟩
      | (exfalso; omega)
  clear S; intro h22 S
  refine st_condF S rfl ?_
  refine wp_skip ?_
  refine nxE ?_
  refine st_call (xs := [(Operand.const (Value.int IntKind.i64 1))]) S (enters_of Try.func7 (by decide) rfl) rfl rfl rfl (new_any 1 _) ?_
  rintro _ w4 ⟨la, k0, er, rfl, hK, hnew⟩
  obtain ⟨rfl, rfl, rfl⟩ := hnew (by omega)
  refine ⟨_, rfl, ?_⟩; clear S a; intro a S; replace M := M.grow hK
  refine st_go [1, 1, 1] S rfl (by kernel_rfl) ?_; clear S a; intro a S
  refine st_alloc S M rfl rfl #[.slice none 0 0, .int .i64 0, .int .i64 0, .slice none 0 0] (by kernel_rfl) ?_; clear S M a; intro a w5 bS S M hB
  refine st_store (sz := 4) (us := [_, _, _, _]) S M 0 rfl (by kernel_rfl) rfl rfl rfl rfl rfl rfl (by first | decide | (simp; done) | (simp; omega)) ?_; clear M; intro w6 M
  simp only [putL, List.set_cons_zero, List.set_cons_succ, Nat.reduceAdd] at M
  refine st_go [1] S rfl (by kernel_rfl) ?_; clear S a; intro a S
  refine nxC ?_
  refine wp_seq ?_
  refine nxD ?_
  refine st_go [1, 1] S rfl (by kernel_rfl) ?_; clear S a; intro a S
  refine nxC ?_
  refine st_if (t := 29) S rfl ?_ ?_
  · clear S; intro h29 S
    exfalso; omega
  clear S; intro h29 S
  refine st_condF S rfl ?_
  refine wp_skip ?_
  refine nxE ?_
  refine st_makeMap (κ := Int × Int) S M rfl rfl ?_; clear S M a; intro a w7 bP S M hB
  refine st_go [1] S rfl (by kernel_rfl) ?_; clear S a; intro a S
  refine nxA ?_
  refine st_makeMap (κ := Int × Int) S M rfl rfl ?_; clear S M a; intro a w8 bQ S M hB
  refine st_go [1] S rfl (by kernel_rfl) ?_; clear S a; intro a S
  refine nxA ?_
  refine st_makeMap (κ := Int) S M rfl rfl ?_; clear S M a; intro a w9 bU S M hB
  refine st_go [1] S rfl (by kernel_rfl) ?_; clear S a; intro a S
  refine nxC ?_
  refine wp_seq ?_
  refine wp_seq ?_
  obtain ⟨hl150, hgq⟩ := hgr (by assumption)
  refine wp_region_lit ?_
  refine st_go [1] S rfl (by kernel_rfl) ?_; clear S a; intro a S
  refine nxC ?_
  refine wp_block ?_
  refine wp_loop_g (fun m a w' => ∃ (k : Nat) (s : Ses) (rl ro : Rw) (of : Of8) (g T : Int → Int → Int) (u : Int → Int) (m1 : Mes (Int × Int)) (c1 : Nat) (m2 : Mes (Int × Int)) (c2 : Nat) (mU : Mes Int) (cU : Nat), k ≤ l.length ∧ m = l.length - k ∧ NumI k s g T u m1 c1 m2 c2 mU cU ∧ Sees 267 a [(1, .slice va l.length vc), (2, .pointer (some ⟨bF, 0, none⟩)), (5, .pointer (some ⟨bS, 0, none⟩)), (7, .map (some bP)), (8, .map (some bQ)), (9, .map (some bU)), (10, .int .i64 (k : Int))] ∧ Mem w w' [rl.ent 65 37 s.l.length (fm Ope.cellsL s.l), ro.ent 91 5 s.over.length (fm End_.cellsL s.over), mapX bU mU cU, mapX bQ m2 c2, mapX bP m1 c1, .blk bS (sesL s rl ro).toArray 29, .blk bF of.cellsL.toArray 22]) (l.length) ?_ ?_
  · skip
    replace M := (M.rowNil 91 5).rowNil 65 37
    exact ⟨0, ⟨[], 0, 1, []⟩, ⟨none, 0, _, _⟩, ⟨none, 0, _, _⟩, of0, _, _, _, [], 0, [], 0, [], 0, Nat.zero_le _, rfl, NumI.start, S.sub _ rfl, M⟩
  clear S M a; intro m a wl
  rintro ⟨k, s, rl, ro, of, g, T, u, m1, c1, m2, c2, mU, cU, hk, rfl, hI, S, M⟩
  refine wp_seq ?_
  refine nxD ?_
  refine st_go [1, 1] S rfl (by kernel_rfl) ?_; clear S a; intro a S
  refine st_y S rfl rfl rfl (y_lenR (E := 47) S rfl ((M.actsW hv).1) (by kernel_rfl)) ?_; clear S a; intro a S
  refine st_go [1] S rfl (by kernel_rfl) ?_; clear S a; intro a S
  refine nxC ?_
  refine st_fi (t := 36) S rfl ?_ ?_
  · clear S; intro h36 S
    refine st_condF S rfl ?_
    refine wp_exit ?_
    refine then_exit ?_
    refine then_exit ?_
    refine block_hit ?_
    refine nxE ?_
    refine st_call (xs := []) S (enters_of Try.func6 (by decide) rfl) rfl rfl rfl (wakes24_any _) ?_
    rintro _ w61 ⟨rfl, hK⟩; refine ⟨_, rfl, ?_⟩; clear S a; intro a S; replace M := M.grow hK
    refine st_go [1] S rfl (by kernel_rfl) ?_; clear S a; intro a S
    refine nxC ?_
    refine wp_ret ?_
    refine end_one S rfl (res_tmp rfl) ?_
    first
      | exact ⟨rfl, M.below⟩
      | (exfalso; omega)
  clear S; intro h36 S
  refine st_condT S rfl ?_
  refine wp_skip ?_
  refine then_normal ?_
  have hkl : k < l.length := by omega
  obtain ⟨q, hq⟩ : ∃ q, l[k]? = some q := ⟨_, List.getElem?_eq_getElem hkl⟩
  obtain ⟨da, dc, xa, xc, hqc, hqb, hqx⟩ := hv.2 k q hq
  obtain ⟨f, B, O, hSI⟩ := hI.si
  have hz := hI.size
  have hub := hI.ub
  have hw : s.Well := (hSI zOf).ok.well
  have hlast := hw.last
  have hlen8 := hw.len
  unfold Ses.size at hz
  refine wp_cut (fun a w' => ∃ (s2 : Ses) (rl2 ro2 : Rw) (of2 : Of8) (g2 T2 : Int → Int → Int) (u2 : Int → Int) (m3 : Mes (Int × Int)) (c3 : Nat) (m4 : Mes (Int × Int)) (c4 : Nat) (mU2 : Mes Int) (cU2 : Nat), NumI (k + 1) s2 g2 T2 u2 m3 c3 m4 c4 mU2 cU2 ∧ Sees 267 a [(1, .slice va l.length vc), (2, .pointer (some ⟨bF, 0, none⟩)), (5, .pointer (some ⟨bS, 0, none⟩)), (7, .map (some bP)), (8, .map (some bQ)), (9, .map (some bU)), (10, .int .i64 (k : Int))] ∧ Mem w w' [rl2.ent 65 37 s2.l.length (fm Ope.cellsL s2.l), ro2.ent 91 5 s2.over.length (fm End_.cellsL s2.over), mapX bU mU2 cU2, mapX bQ m4 c4, mapX bP m3 c3, .blk bS (sesL s2 rl2 ro2).toArray 29, .blk bF of2.cellsL.toArray 22]) ?_ ?_
  · skip
    refine wp_block ?_
    refine nxD ?_
    refine st_go [1, 1] S rfl (by kernel_rfl) ?_; clear S a; intro a S
    refine st_y S rfl rfl rfl (y_indexR (e := 47) (sz := 54) S (by kernel_rfl) rfl ((M.actsW hv).1) rfl (by first | omega | (simp; done) | (simp; omega))) ?_; clear S a; intro a S
    try simp only [Int.toNat_natCast, Nat.mul_one, Nat.zero_add] at S
    refine st_y S rfl rfl rfl (y_loadAgg S (by kernel_rfl) rfl rfl ((M.actsW hv).1.at_.row (i := k) hqc rfl)) ?_; clear S a; intro a S
    refine st_alloc S M rfl rfl #[.int .i64 0, .int .i8 0, .int .i64 0, .int .i64 0, .int .i64 0, .slice none 0 0, .int .i64 0, .int .i64 0, .int .i8 0, .int .i64 0, .int .i64 0, .int .i64 0, .int .i64 0, .int .i64 0, .int .i64 0, .int .i64 0, .int .i64 0, .int .i8 0, .int .i64 0, .int .u8 0, .int .u8 0, .int .u8 0, .int .u8 0, .int .u8 0, .int .u8 0, .int .u8 0, .int .u8 0, .int .i64 0, .bool false, .int .i64 0, .int .i64 0, .slice none 0 0, .int .i64 0, .int .i64 0, .int .i64 0, .int .i64 0, .int .i64 0, .int .i64 0, .int .i64 0, .int .i64 0, .int .i64 0, .int .i64 0, .int .i64 0, .int .i64 0, .int .i64 0, .int .i64 0, .int .u8 0, .int .u8 0, .int .u8 0, .int .u8 0, .int .u8 0, .int .u8 0, .int .u8 0, .int .u8 0] (by kernel_rfl) ?_; clear S M a; intro a w10 bA S M hB
    refine st_store (sz := 54) (us := [_, _, _, _, _, _, _, _, _, _, _, _, _, _, _, _, _, _, _, _, _, _, _, _, _, _, _, _, _, _, _, _, _, _, _, _, _, _, _, _, _, _, _, _, _, _, _, _, _, _, _, _, _, _]) S M 0 rfl (by kernel_rfl) rfl rfl rfl rfl rfl rfl (by first | decide | (simp; done) | (simp; omega)) ?_; clear M; intro w11 M
    simp only [putL, List.set_cons_zero, List.set_cons_succ, Nat.reduceAdd] at M
    refine nxC ?_
    refine wp_seq ?_
    refine wp_seq ?_
    skip
    replace M := M.front 3 rfl
    simp only [List.eraseIdx_cons_succ, List.eraseIdx_cons_zero] at M
    refine wp_region_lit ?_
    refine st_go [1] S rfl (by kernel_rfl) ?_; clear S a; intro a S
    refine st_y S rfl rfl rfl (y_loadAgg (cs := [_, _, _, _, _, _, _, _, _, _, _, _, _, _, _, _, _, _, _, _, _, _, _, _, _, _, _, _, _, _, _, _, _, _, _, _, _, _, _, _, _, _, _, _, _, _, _, _, _, _, _, _, _, _]) S (by kernel_rfl) rfl rfl (M.cellsAt (k := 54) 1 rfl rfl)) ?_; clear S a; intro a S
    refine st_call (xs := [(Operand.tmp 43), (Operand.tmp 44)]) S (enters_of Try.func8 (by decide) rfl) rfl rfl rfl (again_any (A := _) q da xa q.bs.length dc q.x.length xc M hI.gU hI.vU (by have := hub q.stamp; omega)) ?_
    rintro _ w12 ⟨r, mU2, cU2, u2, rfl, hgU, hvU, M1, hag⟩; refine ⟨_, rfl, ?_⟩; clear S M a; intro a S; have M := M1; clear M1
    have hup := again_up hag
    refine nxC ?_
    refine st_if (t := 45) S rfl ?_ ?_
    · clear S; intro h45 S
      refine st_condT S rfl ?_
      refine wp_exit ?_
      refine then_exit ?_
      refine block_hit ?_
      refine then_normal ?_
      replace M := M.front 7 rfl
      simp only [List.eraseIdx_cons_succ, List.eraseIdx_cons_zero] at M
      replace M := M.front 7 rfl
      simp only [List.eraseIdx_cons_succ, List.eraseIdx_cons_zero] at M
      replace M := M.front 7 rfl
      simp only [List.eraseIdx_cons_succ, List.eraseIdx_cons_zero] at M
      replace M := M.front 7 rfl
      simp only [List.eraseIdx_cons_succ, List.eraseIdx_cons_zero] at M
      replace M := M.front 4 rfl
      simp only [List.eraseIdx_cons_succ, List.eraseIdx_cons_zero] at M
      replace M := M.front 7 rfl
      simp only [List.eraseIdx_cons_succ, List.eraseIdx_cons_zero] at M
      replace M := M.front 7 rfl
      simp only [List.eraseIdx_cons_succ, List.eraseIdx_cons_zero] at M
      replace M := M.pre 7
      first
        | exact ⟨s, rl, ro, of, g, T, u2, m1, c1, m2, c2, mU2, cU2, hI.keep hup hgU hvU, S.sub _ rfl, M⟩
        | exact ⟨s, rl, ro, q.of, g, T, u2, m1, c1, m2, c2, mU2, cU2, hI.keep hup hgU hvU, S.sub _ rfl, M⟩
        | exact ⟨s', rl', ro', of, _, T2, u2, m3, c3, m4, c4, mU2, cU2, hI.next hX he hN2 hg3 hv3 hg4 hv4, S.sub _ rfl, M⟩
    clear S; intro h45 S
    refine st_condF S rfl ?_
    refine wp_skip ?_
    refine then_normal ?_
    refine wp_seq ?_
    have hr0 : r = false := by simpa using h45
    subst hr0
    have hfr := again_fresh hSI (fun z => (hub z).1) hag
    have hSI2 := hSI.mono fun z => (hup z).1
    refine wp_region_lit ?_
    refine st_alloc S M rfl rfl #[.slice none 0 0, .int .i64 0, .int .i64 0, .slice none 0 0] (by kernel_rfl) ?_; clear S M a; intro a w13 bX S M hB
    refine nxA ?_
    refine st_alloc S M rfl rfl #[.slice none 0 0, .slice none 0 0, .slice none 0 0, .slice none 0 0, .slice none 0 0] (by kernel_rfl) ?_; clear S M a; intro a w14 bT S M hB
    refine nxA ?_
    refine st_go [1] S rfl (by kernel_rfl) ?_; clear S a; intro a S
    refine nxC ?_
    refine wp_cut (fun a w' => ∃ (bA bX bT : Nat) (s' : Ses) (t' : Tol) (er : Int) (rl' ro' rm ra rs rc re : Rw) (u2 : Int → Int) (mU2 : Mes Int) (cU2 : Nat), NumX s g T u q er s' t' u2 mU2 cU2 ∧ Sees 267 a [(1, .slice va l.length vc), (2, .pointer (some ⟨bF, 0, none⟩)), (5, .pointer (some ⟨bS, 0, none⟩)), (7, .map (some bP)), (8, .map (some bQ)), (9, .map (some bU)), (10, .int .i64 (k : Int)), (11, .pointer (some ⟨bA, 0, none⟩)), (12, .pointer (some ⟨bX, 0, none⟩)), (13, .pointer (some ⟨bT, 0, none⟩)), (14, .int .i64 er)] ∧ Mem w w' [rl'.ent 65 37 s'.l.length (fm Ope.cellsL s'.l), ro'.ent 91 5 s'.over.length (fm End_.cellsL s'.over), rm.ent 45 24 t'.mail.length (fm msgL t'.mail), ra.ent 69 13 t'.ans.length (fm Ans.cellsL t'.ans), rs.ent 71 14 t'.seen.length (fm Seen_.cellsL t'.seen), rc.ent 40 3 t'.com.length (fm nmL t'.com), re.ent 40 3 t'.ends.length (fm nmL t'.ends), .blk bT (tolL t' rm ra rs rc re).toArray 54, .blk bX (sesL s' rl' ro').toArray 29, .blk bA (q.cellsL (.slice da q.bs.length dc) (.slice xa q.x.length xc)).toArray 47, rl.ent 65 37 s.l.length (fm Ope.cellsL s.l), ro.ent 91 5 s.over.length (fm End_.cellsL s.over), mapX bU mU2 cU2, mapX bQ m2 c2, mapX bP m1 c1, .blk bS (sesL s rl ro).toArray 29, .blk bF of.cellsL.toArray 22]) ?_ ?_
    · skip
      refine nxD ?_
      refine st_run [1, 4] S M rfl (by kernel_rfl) ?_; clear S a; intro a S
      refine nxC ?_
      refine wp_block ?_
      refine nxD ?_
      refine st_go [1, 1] S rfl (by kernel_rfl) ?_; clear S a; intro a S
      refine nxC ?_
      refine st_if (t := 58) S rfl ?_ ?_
      · clear S; intro h58 S
        refine st_condT S rfl ?_
        refine wp_region_lit ?_
        refine st_y S rfl rfl rfl (y_loadAgg (cs := [_, _, _, _]) S (by kernel_rfl) rfl rfl (M.cellsAt (k := 4) 8 rfl rfl)) ?_; clear S a; intro a S
        refine st_go [2] S rfl (by kernel_rfl) ?_; clear S a; intro a S
        refine st_y S rfl rfl rfl (y_loadAgg (cs := [_, _, _, _, _, _]) S (by kernel_rfl) rfl rfl (M.cellsAt (k := 6) 3 rfl rfl)) ?_; clear S a; intro a S
        refine st_y S rfl rfl rfl (y_loadAgg (cs := [_, _, _, _, _, _, _, _]) S (by kernel_rfl) rfl rfl (M.cellsAt (k := 8) 9 rfl rfl)) ?_; clear S a; intro a S
        refine st_run [8, 4] S M rfl (by kernel_rfl) ?_; clear S a; intro a S
        refine st_call (xs := [(Operand.tmp 61), (Operand.tmp 63), (Operand.tmp 64), (Operand.tmp 66)]) S (enters_of Try.func9 (by decide) rfl) rfl rfl rfl (call_any (A := _) s rl.a ro.a rl.c ro.c q.c da dc q.bs of q.stamp (fun W M9 => ⟨M9.readAll 4 rfl (by unfold maxLen; omega), M9.readAll 5 rfl (by unfold maxLen; omega)⟩) M (by omega) hw.shok (fun W M9 => M9.argW hqb)) ?_
        rintro _ w15 hst
        obtain ⟨s', t', er, rl', ro', rm, ra, rs, rc, re, rfl, M1, hy⟩ := hst.step
        have hS : er = 0 → NumS s s' t' g T q u2 := fun h9 => NumS.call hSI2 hI.ni of (hfr (by omega)) (by omega) (hy h9)
        refine ⟨_, rfl, ?_⟩; clear S M a; intro a S; have M := M1; clear M1
        simp only [sesE, tolE, List.cons_append, List.nil_append] at M
        refine st_go [1, 1, 1, 1] S rfl (by kernel_rfl) ?_; clear S a; intro a S
        refine st_store (sz := 4) (us := [_, _, _, _]) S M 8 rfl (by kernel_rfl) rfl rfl rfl rfl rfl rfl (by first | decide | (simp; done) | (simp; omega)) ?_; clear M; intro w16 M
        simp only [putL, List.set_cons_zero, List.set_cons_succ, Nat.reduceAdd] at M
        refine st_store (sz := 5) (us := [_, _, _, _, _]) S M 7 rfl (by kernel_rfl) rfl rfl rfl rfl rfl rfl (by first | decide | (simp; done) | (simp; omega)) ?_; clear M; intro w17 M
        simp only [putL, List.set_cons_zero, List.set_cons_succ, Nat.reduceAdd] at M
        refine st_go [1] S rfl (by kernel_rfl) ?_; clear S a; intro a S
        replace S := S.sub [(1, _), (2, _), (5, _), (7, _), (8, _), (9, _), (10, _), (36, _), (11, _), (45, _), (12, _), (13, _), (47, _), (58, _), (14, _)] rfl
        refine wpList_nil ?_
        refine block_normal ?_
        refine then_normal ?_
        replace M := M.front 16 rfl
        simp only [List.eraseIdx_cons_succ, List.eraseIdx_cons_zero] at M
        replace M := M.front 16 rfl
        simp only [List.eraseIdx_cons_succ, List.eraseIdx_cons_zero] at M
        replace M := M.front 16 rfl
        simp only [List.eraseIdx_cons_succ, List.eraseIdx_cons_zero] at M
        replace M := M.front 16 rfl
        simp only [List.eraseIdx_cons_succ, List.eraseIdx_cons_zero] at M
        replace M := M.front 13 rfl
        simp only [List.eraseIdx_cons_succ, List.eraseIdx_cons_zero] at M
        replace M := M.front 16 rfl
        simp only [List.eraseIdx_cons_succ, List.eraseIdx_cons_zero] at M
        replace M := M.front 16 rfl
        simp only [List.eraseIdx_cons_succ, List.eraseIdx_cons_zero] at M
        replace M := M.front 16 rfl
        simp only [List.eraseIdx_cons_succ, List.eraseIdx_cons_zero] at M
        replace M := M.front 16 rfl
        simp only [List.eraseIdx_cons_succ, List.eraseIdx_cons_zero] at M
        replace M := M.front 16 rfl
        simp only [List.eraseIdx_cons_succ, List.eraseIdx_cons_zero] at M
        replace M := M.front 16 rfl
        simp only [List.eraseIdx_cons_succ, List.eraseIdx_cons_zero] at M
        replace M := M.front 16 rfl
        simp only [List.eraseIdx_cons_succ, List.eraseIdx_cons_zero] at M
        replace M := M.front 16 rfl
        simp only [List.eraseIdx_cons_succ, List.eraseIdx_cons_zero] at M
        replace M := M.front 16 rfl
        simp only [List.eraseIdx_cons_succ, List.eraseIdx_cons_zero] at M
        replace M := M.front 16 rfl
        simp only [List.eraseIdx_cons_succ, List.eraseIdx_cons_zero] at M
        replace M := M.front 16 rfl
        simp only [List.eraseIdx_cons_succ, List.eraseIdx_cons_zero] at M
        replace M := M.front 16 rfl
        simp only [List.eraseIdx_cons_succ, List.eraseIdx_cons_zero] at M
        exact ⟨bA, bX, bT, s', t', er, rl', ro', rm, ra, rs, rc, re, u2, mU2, cU2, ⟨hup, hgU, hvU, hS⟩, S.sub _ rfl, M⟩
      clear S; intro h58 S
      refine st_condF S rfl ?_
      refine nxD ?_
      refine st_go [1, 1] S rfl (by kernel_rfl) ?_; clear S a; intro a S
      refine nxC ?_
      refine st_if (t := 71) S rfl ?_ ?_
      · clear S; intro h71 S
        refine st_condT S rfl ?_
        refine wp_region_lit ?_
        refine st_y S rfl rfl rfl (y_loadAgg (cs := [_, _, _, _]) S (by kernel_rfl) rfl rfl (M.cellsAt (k := 4) 8 rfl rfl)) ?_; clear S a; intro a S
        refine st_go [9] S rfl (by kernel_rfl) ?_; clear S a; intro a S
        refine st_y S rfl rfl rfl (y_loadAgg (cs := [_, _, _, _, _, _, _, _, _, _, _, _, _, _, _, _, _, _, _, _, _, _, _, _]) S (by kernel_rfl) rfl rfl (M.cellsAt (k := 24) 3 rfl rfl)) ?_; clear S a; intro a S
        refine st_y S rfl rfl rfl (y_loadAgg (cs := [_, _, _, _, _, _, _, _]) S (by kernel_rfl) rfl rfl (M.cellsAt (k := 8) 9 rfl rfl)) ?_; clear S a; intro a S
        refine st_call (xs := [(Operand.tmp 74), (Operand.tmp 76), (Operand.tmp 77)]) S (enters_of Try.func10 (by decide) rfl) rfl rfl rfl (hear_any (A := _) s rl.a ro.a rl.c ro.c q.m xa xc q.x of (fun W M9 => ⟨M9.readAll 4 rfl (by unfold maxLen; omega), M9.readAll 5 rfl (by unfold maxLen; omega)⟩) M (by omega) hw.shok (fun W M9 => M9.argW hqx)) ?_
        rintro _ w18 hst
        obtain ⟨s', t', er, rl', ro', rm, ra, rs, rc, re, rfl, M1, hy⟩ := hst.step
        have hS : er = 0 → NumS s s' t' g T q u2 := fun h9 => NumS.hear hSI2 hI.ni of (by omega) (hy h9).2.2
        refine ⟨_, rfl, ?_⟩; clear S M a; intro a S; have M := M1; clear M1
        simp only [sesE, tolE, List.cons_append, List.nil_append] at M
        refine st_go [1, 1, 1, 1] S rfl (by kernel_rfl) ?_; clear S a; intro a S
        refine st_store (sz := 4) (us := [_, _, _, _]) S M 8 rfl (by kernel_rfl) rfl rfl rfl rfl rfl rfl (by first | decide | (simp; done) | (simp; omega)) ?_; clear M; intro w19 M
        simp only [putL, List.set_cons_zero, List.set_cons_succ, Nat.reduceAdd] at M
        refine st_store (sz := 5) (us := [_, _, _, _, _]) S M 7 rfl (by kernel_rfl) rfl rfl rfl rfl rfl rfl (by first | decide | (simp; done) | (simp; omega)) ?_; clear M; intro w20 M
        simp only [putL, List.set_cons_zero, List.set_cons_succ, Nat.reduceAdd] at M
        refine st_go [1] S rfl (by kernel_rfl) ?_; clear S a; intro a S
        replace S := S.sub [(1, _), (2, _), (5, _), (7, _), (8, _), (9, _), (10, _), (36, _), (11, _), (45, _), (12, _), (13, _), (47, _), (58, _), (71, _), (14, _)] rfl
        refine wpList_nil ?_
        refine block_normal ?_
        refine then_normal ?_
        replace M := M.front 16 rfl
        simp only [List.eraseIdx_cons_succ, List.eraseIdx_cons_zero] at M
        replace M := M.front 16 rfl
        simp only [List.eraseIdx_cons_succ, List.eraseIdx_cons_zero] at M
        replace M := M.front 16 rfl
        simp only [List.eraseIdx_cons_succ, List.eraseIdx_cons_zero] at M
        replace M := M.front 16 rfl
        simp only [List.eraseIdx_cons_succ, List.eraseIdx_cons_zero] at M
        replace M := M.front 13 rfl
        simp only [List.eraseIdx_cons_succ, List.eraseIdx_cons_zero] at M
        replace M := M.front 16 rfl
        simp only [List.eraseIdx_cons_succ, List.eraseIdx_cons_zero] at M
        replace M := M.front 16 rfl
        simp only [List.eraseIdx_cons_succ, List.eraseIdx_cons_zero] at M
        replace M := M.front 16 rfl
        simp only [List.eraseIdx_cons_succ, List.eraseIdx_cons_zero] at M
        replace M := M.front 16 rfl
        simp only [List.eraseIdx_cons_succ, List.eraseIdx_cons_zero] at M
        replace M := M.front 16 rfl
        simp only [List.eraseIdx_cons_succ, List.eraseIdx_cons_zero] at M
        replace M := M.front 16 rfl
        simp only [List.eraseIdx_cons_succ, List.eraseIdx_cons_zero] at M
        replace M := M.front 16 rfl
        simp only [List.eraseIdx_cons_succ, List.eraseIdx_cons_zero] at M
        replace M := M.front 16 rfl
        simp only [List.eraseIdx_cons_succ, List.eraseIdx_cons_zero] at M
        replace M := M.front 16 rfl
        simp only [List.eraseIdx_cons_succ, List.eraseIdx_cons_zero] at M
        replace M := M.front 16 rfl
        simp only [List.eraseIdx_cons_succ, List.eraseIdx_cons_zero] at M
        replace M := M.front 16 rfl
        simp only [List.eraseIdx_cons_succ, List.eraseIdx_cons_zero] at M
        replace M := M.front 16 rfl
        simp only [List.eraseIdx_cons_succ, List.eraseIdx_cons_zero] at M
        exact ⟨bA, bX, bT, s', t', er, rl', ro', rm, ra, rs, rc, re, u2, mU2, cU2, ⟨hup, hgU, hvU, hS⟩, S.sub _ rfl, M⟩
      clear S; intro h71 S
      refine st_condF S rfl ?_
      refine nxD ?_
      refine st_go [1, 1] S rfl (by kernel_rfl) ?_; clear S a; intro a S
      refine nxC ?_
      refine st_if (t := 82) S rfl ?_ ?_
      · clear S; intro h82 S
        refine st_condT S rfl ?_
        refine wp_region_lit ?_
        refine st_y S rfl rfl rfl (y_loadAgg (cs := [_, _, _, _]) S (by kernel_rfl) rfl rfl (M.cellsAt (k := 4) 8 rfl rfl)) ?_; clear S a; intro a S
        refine st_go [33] S rfl (by kernel_rfl) ?_; clear S a; intro a S
        refine st_y S rfl rfl rfl (y_loadAgg (cs := [_, _, _]) S (by kernel_rfl) rfl rfl (M.cellsAt (k := 3) 3 rfl rfl)) ?_; clear S a; intro a S
        refine st_run [36, 4] S M rfl (by kernel_rfl) ?_; clear S a; intro a S
        refine st_call (xs := [(Operand.tmp 85), (Operand.tmp 87), (Operand.tmp 89)]) S (enters_of Try.func11 (by decide) rfl) rfl rfl rfl (end_any (A := _) s rl.a ro.a rl.c ro.c q.nm q.e (fun W M9 => ⟨M9.readAll 4 rfl (by unfold maxLen; omega), M9.readAll 5 rfl (by unfold maxLen; omega)⟩) M (by omega) hw.shok) ?_
        rintro _ w21 hst
        obtain ⟨s', t', er, rl', ro', rm, ra, rs, rc, re, rfl, M1, hy⟩ := hst
        have hS : er = 0 → NumS s s' t' g T q u2 := fun h9 => NumS.endR hSI2 hI.ni (hy h9).2
        refine ⟨_, rfl, ?_⟩; clear S M a; intro a S; have M := M1; clear M1
        simp only [sesE, tolE, List.cons_append, List.nil_append] at M
        refine st_go [1, 1, 1, 1] S rfl (by kernel_rfl) ?_; clear S a; intro a S
        refine st_store (sz := 4) (us := [_, _, _, _]) S M 8 rfl (by kernel_rfl) rfl rfl rfl rfl rfl rfl (by first | decide | (simp; done) | (simp; omega)) ?_; clear M; intro w22 M
        simp only [putL, List.set_cons_zero, List.set_cons_succ, Nat.reduceAdd] at M
        refine st_store (sz := 5) (us := [_, _, _, _, _]) S M 7 rfl (by kernel_rfl) rfl rfl rfl rfl rfl rfl (by first | decide | (simp; done) | (simp; omega)) ?_; clear M; intro w23 M
        simp only [putL, List.set_cons_zero, List.set_cons_succ, Nat.reduceAdd] at M
        refine st_go [1] S rfl (by kernel_rfl) ?_; clear S a; intro a S
        replace S := S.sub [(1, _), (2, _), (5, _), (7, _), (8, _), (9, _), (10, _), (36, _), (11, _), (45, _), (12, _), (13, _), (47, _), (58, _), (71, _), (82, _), (14, _)] rfl
        refine wpList_nil ?_
        refine block_normal ?_
        refine then_normal ?_
        replace M := M.front 16 rfl
        simp only [List.eraseIdx_cons_succ, List.eraseIdx_cons_zero] at M
        replace M := M.front 16 rfl
        simp only [List.eraseIdx_cons_succ, List.eraseIdx_cons_zero] at M
        replace M := M.front 16 rfl
        simp only [List.eraseIdx_cons_succ, List.eraseIdx_cons_zero] at M
        replace M := M.front 16 rfl
        simp only [List.eraseIdx_cons_succ, List.eraseIdx_cons_zero] at M
        replace M := M.front 13 rfl
        simp only [List.eraseIdx_cons_succ, List.eraseIdx_cons_zero] at M
        replace M := M.front 16 rfl
        simp only [List.eraseIdx_cons_succ, List.eraseIdx_cons_zero] at M
        replace M := M.front 16 rfl
        simp only [List.eraseIdx_cons_succ, List.eraseIdx_cons_zero] at M
        replace M := M.front 16 rfl
        simp only [List.eraseIdx_cons_succ, List.eraseIdx_cons_zero] at M
        replace M := M.front 16 rfl
        simp only [List.eraseIdx_cons_succ, List.eraseIdx_cons_zero] at M
        replace M := M.front 16 rfl
        simp only [List.eraseIdx_cons_succ, List.eraseIdx_cons_zero] at M
        replace M := M.front 16 rfl
        simp only [List.eraseIdx_cons_succ, List.eraseIdx_cons_zero] at M
        replace M := M.front 16 rfl
        simp only [List.eraseIdx_cons_succ, List.eraseIdx_cons_zero] at M
        replace M := M.front 16 rfl
        simp only [List.eraseIdx_cons_succ, List.eraseIdx_cons_zero] at M
        replace M := M.front 16 rfl
        simp only [List.eraseIdx_cons_succ, List.eraseIdx_cons_zero] at M
        replace M := M.front 16 rfl
        simp only [List.eraseIdx_cons_succ, List.eraseIdx_cons_zero] at M
        replace M := M.front 16 rfl
        simp only [List.eraseIdx_cons_succ, List.eraseIdx_cons_zero] at M
        replace M := M.front 16 rfl
        simp only [List.eraseIdx_cons_succ, List.eraseIdx_cons_zero] at M
        exact ⟨bA, bX, bT, s', t', er, rl', ro', rm, ra, rs, rc, re, u2, mU2, cU2, ⟨hup, hgU, hvU, hS⟩, S.sub _ rfl, M⟩
      clear S; intro h82 S
      refine st_condF S rfl ?_
      refine nxD ?_
      refine st_go [1, 1] S rfl (by kernel_rfl) ?_; clear S a; intro a S
      replace S := S.sub [(1, _), (2, _), (5, _), (7, _), (8, _), (9, _), (10, _), (36, _), (11, _), (45, _), (12, _), (13, _), (14, _), (47, _), (58, _), (71, _), (82, _), (94, _)] rfl
      refine nxC ?_
      refine st_if (t := 94) S rfl ?_ ?_
      · clear S; intro h94 S
        refine st_condT S rfl ?_
        refine wp_region_lit ?_
        refine st_y S rfl rfl rfl (y_loadAgg (cs := [_, _, _, _]) S (by kernel_rfl) rfl rfl (M.cellsAt (k := 4) 8 rfl rfl)) ?_; clear S a; intro a S
        refine st_y S rfl rfl rfl (y_loadAgg (cs := [_, _, _, _, _, _, _, _]) S (by kernel_rfl) rfl rfl (M.cellsAt (k := 8) 9 rfl rfl)) ?_; clear S a; intro a S
        refine st_call (xs := [(Operand.tmp 97), (Operand.tmp 98)]) S (enters_of Try.func12 (by decide) rfl) rfl rfl rfl (tick_any (A := _) s rl.a ro.a rl.c ro.c of (fun W M9 => ⟨M9.readAll 4 rfl (by unfold maxLen; omega), M9.readAll 5 rfl (by unfold maxLen; omega)⟩) M (by omega) hw.shok) ?_
        rintro _ w24 hst
        obtain ⟨s', t', er, rl', ro', rm, ra, rs, rc, re, rfl, M1, hy⟩ := hst
        have hS : er = 0 → NumS s s' t' g T q u2 := fun h9 => NumS.tick hSI2 hI.ni (hy h9).2
        refine ⟨_, rfl, ?_⟩; clear S M a; intro a S; have M := M1; clear M1
        simp only [sesE, tolE, List.cons_append, List.nil_append] at M
        refine st_go [1, 1, 1, 1] S rfl (by kernel_rfl) ?_; clear S a; intro a S
        refine st_store (sz := 4) (us := [_, _, _, _]) S M 8 rfl (by kernel_rfl) rfl rfl rfl rfl rfl rfl (by first | decide | (simp; done) | (simp; omega)) ?_; clear M; intro w25 M
        simp only [putL, List.set_cons_zero, List.set_cons_succ, Nat.reduceAdd] at M
        refine st_store (sz := 5) (us := [_, _, _, _, _]) S M 7 rfl (by kernel_rfl) rfl rfl rfl rfl rfl rfl (by first | decide | (simp; done) | (simp; omega)) ?_; clear M; intro w26 M
        simp only [putL, List.set_cons_zero, List.set_cons_succ, Nat.reduceAdd] at M
        refine st_go [1] S rfl (by kernel_rfl) ?_; clear S a; intro a S
        refine wpList_nil ?_
        refine block_normal ?_
        refine then_normal ?_
        replace M := M.front 16 rfl
        simp only [List.eraseIdx_cons_succ, List.eraseIdx_cons_zero] at M
        replace M := M.front 16 rfl
        simp only [List.eraseIdx_cons_succ, List.eraseIdx_cons_zero] at M
        replace M := M.front 16 rfl
        simp only [List.eraseIdx_cons_succ, List.eraseIdx_cons_zero] at M
        replace M := M.front 16 rfl
        simp only [List.eraseIdx_cons_succ, List.eraseIdx_cons_zero] at M
        replace M := M.front 13 rfl
        simp only [List.eraseIdx_cons_succ, List.eraseIdx_cons_zero] at M
        replace M := M.front 16 rfl
        simp only [List.eraseIdx_cons_succ, List.eraseIdx_cons_zero] at M
        replace M := M.front 16 rfl
        simp only [List.eraseIdx_cons_succ, List.eraseIdx_cons_zero] at M
        replace M := M.front 16 rfl
        simp only [List.eraseIdx_cons_succ, List.eraseIdx_cons_zero] at M
        replace M := M.front 16 rfl
        simp only [List.eraseIdx_cons_succ, List.eraseIdx_cons_zero] at M
        replace M := M.front 16 rfl
        simp only [List.eraseIdx_cons_succ, List.eraseIdx_cons_zero] at M
        replace M := M.front 16 rfl
        simp only [List.eraseIdx_cons_succ, List.eraseIdx_cons_zero] at M
        replace M := M.front 16 rfl
        simp only [List.eraseIdx_cons_succ, List.eraseIdx_cons_zero] at M
        replace M := M.front 16 rfl
        simp only [List.eraseIdx_cons_succ, List.eraseIdx_cons_zero] at M
        replace M := M.front 16 rfl
        simp only [List.eraseIdx_cons_succ, List.eraseIdx_cons_zero] at M
        replace M := M.front 16 rfl
        simp only [List.eraseIdx_cons_succ, List.eraseIdx_cons_zero] at M
        replace M := M.front 16 rfl
        simp only [List.eraseIdx_cons_succ, List.eraseIdx_cons_zero] at M
        replace M := M.front 16 rfl
        simp only [List.eraseIdx_cons_succ, List.eraseIdx_cons_zero] at M
        exact ⟨bA, bX, bT, s', t', er, rl', ro', rm, ra, rs, rc, re, u2, mU2, cU2, ⟨hup, hgU, hvU, hS⟩, S.sub _ rfl, M⟩
      clear S; intro h94 S
      refine st_condF S rfl ?_
      refine nxD ?_
      refine st_go [1, 1] S rfl (by kernel_rfl) ?_; clear S a; intro a S
      refine nxC ?_
      refine st_if (t := 103) S rfl ?_ ?_
      · clear S; intro h103 S
        refine st_condT S rfl ?_
        refine wp_region_lit ?_
        refine st_y S rfl rfl rfl (y_loadAgg (cs := [_, _, _, _]) S (by kernel_rfl) rfl rfl (M.cellsAt (k := 4) 8 rfl rfl)) ?_; clear S a; intro a S
        refine st_run [37, 4] S M rfl (by kernel_rfl) ?_; clear S a; intro a S
        refine st_call (xs := [(Operand.tmp 106), (Operand.tmp 108)]) S (enters_of Try.func13 (by decide) rfl) rfl rfl rfl (anew_any (A := _) s rl.a ro.a rl.c ro.c q.shard (fun W M9 => ⟨M9.readAll 4 rfl (by unfold maxLen; omega), M9.readAll 5 rfl (by unfold maxLen; omega)⟩) M (by omega) hw.shok) ?_
        rintro _ w27 hst
        obtain ⟨s', t', er, rl', ro', rm, ra, rs, rc, re, rfl, M1, hy⟩ := hst
        have hS : er = 0 → NumS s s' t' g T q u2 := fun h9 => NumS.anew hSI2 hI.ni (by unfold Ses.size; omega) (hy h9).2.2
        refine ⟨_, rfl, ?_⟩; clear S M a; intro a S; have M := M1; clear M1
        simp only [sesE, tolE, List.cons_append, List.nil_append] at M
        refine st_go [1, 1, 1, 1] S rfl (by kernel_rfl) ?_; clear S a; intro a S
        refine st_store (sz := 4) (us := [_, _, _, _]) S M 8 rfl (by kernel_rfl) rfl rfl rfl rfl rfl rfl (by first | decide | (simp; done) | (simp; omega)) ?_; clear M; intro w28 M
        simp only [putL, List.set_cons_zero, List.set_cons_succ, Nat.reduceAdd] at M
        refine st_store (sz := 5) (us := [_, _, _, _, _]) S M 7 rfl (by kernel_rfl) rfl rfl rfl rfl rfl rfl (by first | decide | (simp; done) | (simp; omega)) ?_; clear M; intro w29 M
        simp only [putL, List.set_cons_zero, List.set_cons_succ, Nat.reduceAdd] at M
        refine st_go [1] S rfl (by kernel_rfl) ?_; clear S a; intro a S
        refine wpList_nil ?_
        refine block_normal ?_
        refine then_normal ?_
        replace M := M.front 16 rfl
        simp only [List.eraseIdx_cons_succ, List.eraseIdx_cons_zero] at M
        replace M := M.front 16 rfl
        simp only [List.eraseIdx_cons_succ, List.eraseIdx_cons_zero] at M
        replace M := M.front 16 rfl
        simp only [List.eraseIdx_cons_succ, List.eraseIdx_cons_zero] at M
        replace M := M.front 16 rfl
        simp only [List.eraseIdx_cons_succ, List.eraseIdx_cons_zero] at M
        replace M := M.front 13 rfl
        simp only [List.eraseIdx_cons_succ, List.eraseIdx_cons_zero] at M
        replace M := M.front 16 rfl
        simp only [List.eraseIdx_cons_succ, List.eraseIdx_cons_zero] at M
        replace M := M.front 16 rfl
        simp only [List.eraseIdx_cons_succ, List.eraseIdx_cons_zero] at M
        replace M := M.front 16 rfl
        simp only [List.eraseIdx_cons_succ, List.eraseIdx_cons_zero] at M
        replace M := M.front 16 rfl
        simp only [List.eraseIdx_cons_succ, List.eraseIdx_cons_zero] at M
        replace M := M.front 16 rfl
        simp only [List.eraseIdx_cons_succ, List.eraseIdx_cons_zero] at M
        replace M := M.front 16 rfl
        simp only [List.eraseIdx_cons_succ, List.eraseIdx_cons_zero] at M
        replace M := M.front 16 rfl
        simp only [List.eraseIdx_cons_succ, List.eraseIdx_cons_zero] at M
        replace M := M.front 16 rfl
        simp only [List.eraseIdx_cons_succ, List.eraseIdx_cons_zero] at M
        replace M := M.front 16 rfl
        simp only [List.eraseIdx_cons_succ, List.eraseIdx_cons_zero] at M
        replace M := M.front 16 rfl
        simp only [List.eraseIdx_cons_succ, List.eraseIdx_cons_zero] at M
        replace M := M.front 16 rfl
        simp only [List.eraseIdx_cons_succ, List.eraseIdx_cons_zero] at M
        replace M := M.front 16 rfl
        simp only [List.eraseIdx_cons_succ, List.eraseIdx_cons_zero] at M
        exact ⟨bA, bX, bT, s', t', er, rl', ro', rm, ra, rs, rc, re, u2, mU2, cU2, ⟨hup, hgU, hvU, hS⟩, S.sub _ rfl, M⟩
      clear S; intro h103 S
      refine st_condF S rfl ?_
      refine nxD ?_
      refine st_go [1, 1] S rfl (by kernel_rfl) ?_; clear S a; intro a S
      refine nxC ?_
      refine st_if (t := 113) S rfl ?_ ?_
      · clear S; intro h113 S
        refine st_condT S rfl ?_
        refine nxD ?_
        refine st_go [38] S rfl (by kernel_rfl) ?_; clear S a; intro a S
        refine st_y S rfl rfl rfl (y_loadAgg (cs := [_, _, _, _, _, _, _, _]) S (by kernel_rfl) rfl rfl (M.cellsAt (k := 8) 3 rfl rfl)) ?_; clear S a; intro a S
        refine st_store (sz := 8) (us := [_, _, _, _, _, _, _, _]) S M 9 rfl (by kernel_rfl) rfl rfl rfl rfl rfl rfl (by first | decide | (simp; done) | (simp; omega)) ?_; clear M; intro w30 M
        simp only [putL, List.set_cons_zero, List.set_cons_succ, Nat.reduceAdd] at M
        refine nxC ?_
        refine wp_exit ?_
        refine block_miss rfl ?_
        refine then_exit ?_
        refine block_hit ?_
        refine then_normal ?_
        replace M := M.front 9 rfl
        simp only [List.eraseIdx_cons_succ, List.eraseIdx_cons_zero] at M
        replace M := M.front 9 rfl
        simp only [List.eraseIdx_cons_succ, List.eraseIdx_cons_zero] at M
        replace M := M.front 9 rfl
        simp only [List.eraseIdx_cons_succ, List.eraseIdx_cons_zero] at M
        replace M := M.front 9 rfl
        simp only [List.eraseIdx_cons_succ, List.eraseIdx_cons_zero] at M
        replace M := M.front 6 rfl
        simp only [List.eraseIdx_cons_succ, List.eraseIdx_cons_zero] at M
        replace M := M.front 9 rfl
        simp only [List.eraseIdx_cons_succ, List.eraseIdx_cons_zero] at M
        replace M := M.front 9 rfl
        simp only [List.eraseIdx_cons_succ, List.eraseIdx_cons_zero] at M
        replace M := M.pre 7
        first
          | exact ⟨s, rl, ro, of, g, T, u2, m1, c1, m2, c2, mU2, cU2, hI.keep hup hgU hvU, S.sub _ rfl, M⟩
          | exact ⟨s, rl, ro, q.of, g, T, u2, m1, c1, m2, c2, mU2, cU2, hI.keep hup hgU hvU, S.sub _ rfl, M⟩
          | exact ⟨s', rl', ro', of, _, T2, u2, m3, c3, m4, c4, mU2, cU2, hI.next hX he hN2 hg3 hv3 hg4 hv4, S.sub _ rfl, M⟩
      clear S; intro h113 S
      refine st_condF S rfl ?_
      refine wp_regionK [5, 10, 11] #[false, false, false, false, false, false, false, false, false, false, false, false, false] rfl M (by kernel_rfl) ?_; clear M; intro w31 M
      refine k_read (listed' := #[true, false, false, false, false, false, false, false, false, false, false, false, false]) 0 S rfl rfl rfl rfl (by kernel_rfl) rfl (fun _ d _ _ _ h => by cases d <;> exact h) (fun w hW => have M := M.grow hW; y_loadAgg (cs := [_, _, _, _]) S (by kernel_rfl) rfl rfl (M.cellsAt (k := 4) 8 rfl rfl)) ?_; clear S a; intro a S
      refine k_read (listed' := #[true, true, false, false, false, false, false, false, false, false, false, false, false]) 1 S rfl rfl rfl rfl (by kernel_rfl) rfl (fun _ d _ _ _ h => by cases d <;> exact h) (fun w hW => have M := M.grow hW; y_loadAgg (cs := [_, _, _, _]) S (by kernel_rfl) rfl rfl (M.cellsAt (k := 4) 8 rfl rfl)) ?_; clear S a; intro a S
      refine k_read (listed' := #[true, true, true, false, false, false, false, false, false, false, false, false, false]) 2 S rfl rfl rfl rfl (by kernel_rfl) rfl (fun _ d _ _ _ h => by cases d <;> exact h) (fun w hW => have M := M.grow hW; y_loadAgg (cs := [_, _, _, _, _, _, _, _, _, _, _, _, _, _, _, _, _, _, _, _, _, _, _, _, _, _, _, _, _, _, _, _, _, _, _, _, _, _, _, _, _, _, _, _, _, _, _, _, _, _, _, _, _, _]) S (by kernel_rfl) rfl rfl (M.cellsAt (k := 54) 3 rfl rfl)) ?_; clear S a; intro a S
      refine k_read (listed' := #[true, true, true, false, true, false, false, false, false, false, false, false, false]) 4 S rfl rfl rfl rfl (by kernel_rfl) rfl (fun _ d _ _ _ h => by cases d <;> exact h) (fun w hW => have M := M.grow hW; y_loadAgg (cs := [_, _, _, _, _, _, _, _]) S (by kernel_rfl) rfl rfl (M.cellsAt (k := 8) 9 rfl rfl)) ?_; clear S a; intro a S
      refine k_one (listed' := #[true, true, true, true, true, false, false, false, false, false, false, false, false]) 3 rfl (by kernel_rfl) rfl ?_
      refine st_call (xs := [(Operand.tmp 50), (Operand.tmp 51)]) S (enters_of Try.func14 (by decide) rfl) rfl rfl rfl (waited_any s rl.a rl.c ro.a s.over.length ro.c q da xa q.bs.length dc q.x.length xc _ (M.readAll 4 rfl (by unfold maxLen; omega)) (by omega)) ?_
      rintro _ w32 ⟨mw, rfl, hK⟩; refine ⟨_, rfl, ?_⟩; clear S a; intro a S; replace M := M.grow hK
      refine wpList_nil ?_; refine then_normal ?_; refine ⟨fun _ => hK, ?_⟩
      refine k_one (listed' := #[true, true, true, true, true, true, false, false, false, false, false, false, false]) 5 rfl (by kernel_rfl) rfl ?_
      refine st_call (xs := [(Operand.tmp 49), (Operand.tmp 52), (Operand.tmp 53)]) S (enters_of Try.func10 (by decide) rfl) rfl rfl rfl (hear_any (A := _) s rl.a ro.a rl.c ro.c mw none 0 [] of (fun W M9 => ⟨M9.readAll 4 rfl (by unfold maxLen; omega), M9.readAll 5 rfl (by unfold maxLen; omega)⟩) M (by omega) hw.shok (fun W M9 => Rd.nil _ _ _ _)) ?_
      rintro _ w33 hst
      obtain ⟨s', t', er, rl', ro', rm, ra, rs, rc, re, rfl, M1, hy⟩ := hst.step
      have hS : er = 0 → NumS s s' t' g T q u2 := fun h9 => NumS.hear hSI2 hI.ni of (by omega) (hy h9).2.2
      refine ⟨_, rfl, ?_⟩; clear S M a; intro a S; have M := M1; clear M1
      simp only [sesE, tolE, List.cons_append, List.nil_append] at M
      refine wpList_nil ?_; refine then_normal ?_; refine ⟨fun h => absurd h (by decide), ?_⟩
      refine k_pure (listed' := #[true, true, true, true, true, true, true, false, false, false, false, false, false]) 6 S rfl rfl rfl rfl (by kernel_rfl) rfl (fun _ d _ _ _ h => by cases d <;> exact h) (fun w => y_move S rfl) ?_; clear S a; intro a S
      refine k_pure (listed' := #[true, true, true, true, true, true, true, true, false, false, false, false, false]) 7 S rfl rfl rfl rfl (by kernel_rfl) rfl (fun _ d _ _ _ h => by cases d <;> exact h) (fun w => y_extract S rfl rfl) ?_; clear S a; intro a S
      refine k_pure (listed' := #[true, true, true, true, true, true, true, true, true, false, false, false, false]) 8 S rfl rfl rfl rfl (by kernel_rfl) rfl (fun _ d _ _ _ h => by cases d <;> exact h) (fun w => y_extract S rfl rfl) ?_; clear S a; intro a S
      refine k_pure (listed' := #[true, true, true, true, true, true, true, true, true, true, false, false, false]) 9 S rfl rfl rfl rfl (by kernel_rfl) rfl (fun _ d _ _ _ h => by cases d <;> exact h) (fun w => y_extract S rfl rfl) ?_; clear S a; intro a S
      refine k_one (listed' := #[true, true, true, true, true, true, true, true, true, true, true, false, false]) 10 rfl (by kernel_rfl) rfl ?_
      refine st_store (sz := 4) (us := [_, _, _, _]) S M 8 rfl (by kernel_rfl) rfl rfl rfl rfl rfl rfl (by first | decide | (simp; done) | (simp; omega)) ?_; clear M; intro w34 M
      simp only [putL, List.set_cons_zero, List.set_cons_succ, Nat.reduceAdd] at M
      refine wpList_nil ?_; refine then_normal ?_; refine ⟨fun h => absurd h (by decide), ?_⟩
      refine k_one (listed' := #[true, true, true, true, true, true, true, true, true, true, true, true, false]) 11 rfl (by kernel_rfl) rfl ?_
      refine st_store (sz := 5) (us := [_, _, _, _, _]) S M 7 rfl (by kernel_rfl) rfl rfl rfl rfl rfl rfl (by first | decide | (simp; done) | (simp; omega)) ?_; clear M; intro w35 M
      simp only [putL, List.set_cons_zero, List.set_cons_succ, Nat.reduceAdd] at M
      refine wpList_nil ?_; refine then_normal ?_; refine ⟨fun h => absurd h (by decide), ?_⟩
      refine k_pure (listed' := #[true, true, true, true, true, true, true, true, true, true, true, true, true]) 12 S rfl rfl rfl rfl (by kernel_rfl) rfl (fun _ d _ _ _ h => by cases d <;> exact h) (fun w => y_assign S rfl) ?_; clear S a; intro a S
      refine k_end (by kernel_rfl) ?_
      refine block_normal ?_
      refine then_normal ?_
      replace M := M.front 16 rfl
      simp only [List.eraseIdx_cons_succ, List.eraseIdx_cons_zero] at M
      replace M := M.front 16 rfl
      simp only [List.eraseIdx_cons_succ, List.eraseIdx_cons_zero] at M
      replace M := M.front 16 rfl
      simp only [List.eraseIdx_cons_succ, List.eraseIdx_cons_zero] at M
      replace M := M.front 16 rfl
      simp only [List.eraseIdx_cons_succ, List.eraseIdx_cons_zero] at M
      replace M := M.front 13 rfl
      simp only [List.eraseIdx_cons_succ, List.eraseIdx_cons_zero] at M
      replace M := M.front 16 rfl
      simp only [List.eraseIdx_cons_succ, List.eraseIdx_cons_zero] at M
      replace M := M.front 16 rfl
      simp only [List.eraseIdx_cons_succ, List.eraseIdx_cons_zero] at M
      replace M := M.front 16 rfl
      simp only [List.eraseIdx_cons_succ, List.eraseIdx_cons_zero] at M
      replace M := M.front 16 rfl
      simp only [List.eraseIdx_cons_succ, List.eraseIdx_cons_zero] at M
      replace M := M.front 16 rfl
      simp only [List.eraseIdx_cons_succ, List.eraseIdx_cons_zero] at M
      replace M := M.front 16 rfl
      simp only [List.eraseIdx_cons_succ, List.eraseIdx_cons_zero] at M
      replace M := M.front 16 rfl
      simp only [List.eraseIdx_cons_succ, List.eraseIdx_cons_zero] at M
      replace M := M.front 16 rfl
      simp only [List.eraseIdx_cons_succ, List.eraseIdx_cons_zero] at M
      replace M := M.front 16 rfl
      simp only [List.eraseIdx_cons_succ, List.eraseIdx_cons_zero] at M
      replace M := M.front 16 rfl
      simp only [List.eraseIdx_cons_succ, List.eraseIdx_cons_zero] at M
      replace M := M.front 16 rfl
      simp only [List.eraseIdx_cons_succ, List.eraseIdx_cons_zero] at M
      replace M := M.front 16 rfl
      simp only [List.eraseIdx_cons_succ, List.eraseIdx_cons_zero] at M
      exact ⟨bA, bX, bT, s', t', er, rl', ro', rm, ra, rs, rc, re, u2, mU2, cU2, ⟨hup, hgU, hvU, hS⟩, S.sub _ rfl, M⟩
    clear S a M; intro a wc
    rintro ⟨bA, bX, bT, s', t', er, rl', ro', rm, ra, rs, rc, re, u2, mU2, cU2, hX, S, M⟩
    have hup := hX.up
    have hgU := hX.gU
    have hvU := hX.vU
    refine wp_seq ?_
    refine nxD ?_
    refine st_go [1, 1] S rfl (by kernel_rfl) ?_; clear S a; intro a S
    refine nxC ?_
    refine st_if (t := 118) S rfl ?_ ?_
    · clear S; intro h118 S
      refine st_condT S rfl ?_
      refine wp_exit ?_
      refine then_exit ?_
      refine block_hit ?_
      refine then_normal ?_
      replace M := M.front 16 rfl
      simp only [List.eraseIdx_cons_succ, List.eraseIdx_cons_zero] at M
      replace M := M.front 16 rfl
      simp only [List.eraseIdx_cons_succ, List.eraseIdx_cons_zero] at M
      replace M := M.front 16 rfl
      simp only [List.eraseIdx_cons_succ, List.eraseIdx_cons_zero] at M
      replace M := M.front 16 rfl
      simp only [List.eraseIdx_cons_succ, List.eraseIdx_cons_zero] at M
      replace M := M.front 16 rfl
      simp only [List.eraseIdx_cons_succ, List.eraseIdx_cons_zero] at M
      replace M := M.front 16 rfl
      simp only [List.eraseIdx_cons_succ, List.eraseIdx_cons_zero] at M
      replace M := M.front 16 rfl
      simp only [List.eraseIdx_cons_succ, List.eraseIdx_cons_zero] at M
      replace M := M.pre 7
      first
        | exact ⟨s, rl, ro, of, g, T, u2, m1, c1, m2, c2, mU2, cU2, hI.keep hup hgU hvU, S.sub _ rfl, M⟩
        | exact ⟨s, rl, ro, q.of, g, T, u2, m1, c1, m2, c2, mU2, cU2, hI.keep hup hgU hvU, S.sub _ rfl, M⟩
        | exact ⟨s', rl', ro', of, _, T2, u2, m3, c3, m4, c4, mU2, cU2, hI.next hX he hN2 hg3 hv3 hg4 hv4, S.sub _ rfl, M⟩
    clear S; intro h118 S
    refine st_condF S rfl ?_
    refine wp_skip ?_
    refine then_normal ?_
    refine wp_seq ?_
    refine wp_seq ?_
    have he : er = 0 := by omega
    have hS := hX.step he
    have hnum := hS.num
    obtain ⟨f2, B2, O2, hSI2⟩ := hS.si
    have hsz := hS.size
    obtain ⟨hsh1, hsh2, hsh3⟩ := hS.short
    have hw2 : s'.Well := (hSI2 zOf).ok.well
    have hlen2 := hw2.len
    unfold Ses.size at hsz
    have hla : s'.last = s.last ∨ s'.last = s.last + 1 := by
      rcases hnum.2 with ⟨h, -⟩ | ⟨st, tr, h, -⟩
      · exact .inl h
      · exact .inr h
    refine wp_region_lit ?_
    refine st_go [1] S rfl (by kernel_rfl) ?_; clear S a; intro a S
    refine nxC ?_
    refine wp_block ?_
    refine wp_loop_g (fun m a w' => ∃ (j : Nat) (m3 : Mes (Int × Int)) (c3 : Nat), j ≤ t'.mail.length ∧ m = t'.mail.length - j ∧ Good enc2 m3 c3 ∧ CV2 m3 (lastF s'.l g (t'.mail.take j)) ∧ Sees 267 a [(1, .slice va l.length vc), (2, .pointer (some ⟨bF, 0, none⟩)), (5, .pointer (some ⟨bS, 0, none⟩)), (7, .map (some bP)), (8, .map (some bQ)), (9, .map (some bU)), (10, .int .i64 (k : Int)), (11, .pointer (some ⟨bA, 0, none⟩)), (12, .pointer (some ⟨bX, 0, none⟩)), (13, .pointer (some ⟨bT, 0, none⟩)), (15, .int .i64 (j : Int))] ∧ Mem w w' [rl'.ent 65 37 s'.l.length (fm Ope.cellsL s'.l), ro'.ent 91 5 s'.over.length (fm End_.cellsL s'.over), rm.ent 45 24 t'.mail.length (fm msgL t'.mail), ra.ent 69 13 t'.ans.length (fm Ans.cellsL t'.ans), rs.ent 71 14 t'.seen.length (fm Seen_.cellsL t'.seen), rc.ent 40 3 t'.com.length (fm nmL t'.com), re.ent 40 3 t'.ends.length (fm nmL t'.ends), .blk bT (tolL t' rm ra rs rc re).toArray 54, .blk bX (sesL s' rl' ro').toArray 29, .blk bA (q.cellsL (.slice da q.bs.length dc) (.slice xa q.x.length xc)).toArray 47, rl.ent 65 37 s.l.length (fm Ope.cellsL s.l), ro.ent 91 5 s.over.length (fm End_.cellsL s.over), mapX bU mU2 cU2, mapX bQ m2 c2, mapX bP m3 c3, .blk bS (sesL s rl ro).toArray 29, .blk bF of.cellsL.toArray 22]) (t'.mail.length) ?_ ?_
    · skip
      exact ⟨0, m1, c1, Nat.zero_le _, rfl, hI.g1, hI.v1, S.sub _ rfl, M⟩
    clear S M a; intro m a wl
    rintro ⟨j, m3, c3, hj, rfl, hg3, hv3, S, M⟩
    refine wp_seq ?_
    refine nxD ?_
    refine st_run [1, 1, 8] S M rfl (by kernel_rfl) ?_; clear S a; intro a S
    refine st_y S rfl rfl rfl (y_lenR (E := 45) S rfl (M.readAll 2 rfl (by unfold maxLen; omega)) (by kernel_rfl)) ?_; clear S a; intro a S
    refine st_go [1] S rfl (by kernel_rfl) ?_; clear S a; intro a S
    refine nxC ?_
    refine st_if (t := 123) S rfl ?_ ?_
    · clear S; intro h123 S
      refine st_condT S rfl ?_
      refine wp_skip ?_
      refine then_normal ?_
      refine wp_seq ?_
      refine wp_block ?_
      refine wp_seq ?_
      have hjl : j < t'.mail.length := by omega
      obtain ⟨y, hy⟩ : ∃ y, t'.mail[j]? = some y := ⟨_, List.getElem?_eq_getElem hjl⟩
      have htk : t'.mail.take (j + 1) = t'.mail.take j ++ [y] := by rw [List.take_add_one, hy]; rfl
      refine wp_region_lit ?_
      refine st_run [1, 8, 1] S M rfl (by kernel_rfl) ?_; clear S a; intro a S
      refine st_y S rfl rfl rfl (y_indexR (e := 45) (sz := 24) S (by kernel_rfl) rfl (M.readAll 2 rfl (by unfold maxLen; omega)) rfl (by first | omega | (simp; done) | (simp; omega))) ?_; clear S a; intro a S
      try simp only [Int.toNat_natCast, Nat.mul_one, Nat.zero_add] at S
      refine st_y S rfl rfl rfl (y_loadAgg S (by kernel_rfl) rfl rfl ((M.readAll 2 rfl (by unfold maxLen; omega)).at_.row (i := j) (fm_get len_msg hy) rfl)) ?_; clear S a; intro a S
      refine st_alloc S M rfl rfl #[.int .i8 0, .int .i64 0, .int .i64 0, .int .i64 0, .int .i64 0, .int .i64 0, .int .i64 0, .int .i64 0, .int .i64 0, .int .i8 0, .int .i64 0, .int .u8 0, .int .u8 0, .int .u8 0, .int .u8 0, .int .u8 0, .int .u8 0, .int .u8 0, .int .u8 0, .int .i64 0, .bool false, .int .i64 0, .int .i64 0, .slice none 0 0] (by kernel_rfl) ?_; clear S M a; intro a w36 bY S M hB
      refine st_store (sz := 24) (us := [_, _, _, _, _, _, _, _, _, _, _, _, _, _, _, _, _, _, _, _, _, _, _, _]) S M 0 rfl (by kernel_rfl) rfl rfl rfl rfl rfl rfl (by first | decide | (simp; done) | (simp; omega)) ?_; clear M; intro w37 M
      simp only [putL, List.set_cons_zero, List.set_cons_succ, Nat.reduceAdd] at M
      refine nxC ?_
      refine wp_seq ?_
      refine nxD ?_
      refine st_run [1, 1, 1] S M rfl (by kernel_rfl) ?_; clear S a; intro a S
      refine nxC ?_
      refine st_if (t := 133) S rfl ?_ ?_
      · clear S; intro h133 S
        refine st_condT S rfl ?_
        refine wp_exit ?_
        refine then_exit ?_
        refine block_hit ?_
        refine nxF ?_
        refine st_go [1] S rfl (by kernel_rfl) ?_; clear S a; intro a S
        (first | refine st_y S rfl rfl rfl (y_addN S rfl rfl (by omega)) ?_ | refine st_y S rfl rfl rfl (y_int S rfl rfl rfl) ?_); clear S a; intro a S
        refine st_go [1] S rfl (by kernel_rfl) ?_; clear S a; intro a S
        replace S := S.sub [(1, _), (2, _), (5, _), (7, _), (8, _), (9, _), (10, _), (11, _), (12, _), (13, _), (123, _), (16, _), (133, _), (15, _)] rfl
        refine nxC ?_
        replace M := M.front 17 rfl
        simp only [List.eraseIdx_cons_succ, List.eraseIdx_cons_zero] at M
        replace M := M.front 17 rfl
        simp only [List.eraseIdx_cons_succ, List.eraseIdx_cons_zero] at M
        replace M := M.front 17 rfl
        simp only [List.eraseIdx_cons_succ, List.eraseIdx_cons_zero] at M
        replace M := M.front 17 rfl
        simp only [List.eraseIdx_cons_succ, List.eraseIdx_cons_zero] at M
        replace M := M.front 17 rfl
        simp only [List.eraseIdx_cons_succ, List.eraseIdx_cons_zero] at M
        replace M := M.front 17 rfl
        simp only [List.eraseIdx_cons_succ, List.eraseIdx_cons_zero] at M
        replace M := M.front 17 rfl
        simp only [List.eraseIdx_cons_succ, List.eraseIdx_cons_zero] at M
        replace M := M.front 17 rfl
        simp only [List.eraseIdx_cons_succ, List.eraseIdx_cons_zero] at M
        replace M := M.front 17 rfl
        simp only [List.eraseIdx_cons_succ, List.eraseIdx_cons_zero] at M
        replace M := M.front 17 rfl
        simp only [List.eraseIdx_cons_succ, List.eraseIdx_cons_zero] at M
        replace M := M.front 17 rfl
        simp only [List.eraseIdx_cons_succ, List.eraseIdx_cons_zero] at M
        replace M := M.front 17 rfl
        simp only [List.eraseIdx_cons_succ, List.eraseIdx_cons_zero] at M
        replace M := M.front 17 rfl
        simp only [List.eraseIdx_cons_succ, List.eraseIdx_cons_zero] at M
        replace M := M.front 17 rfl
        simp only [List.eraseIdx_cons_succ, List.eraseIdx_cons_zero] at M
        replace M := M.front 17 rfl
        simp only [List.eraseIdx_cons_succ, List.eraseIdx_cons_zero] at M
        replace M := M.front 17 rfl
        simp only [List.eraseIdx_cons_succ, List.eraseIdx_cons_zero] at M
        replace M := M.front 17 rfl
        simp only [List.eraseIdx_cons_succ, List.eraseIdx_cons_zero] at M
        replace M := M.pre 17
        first
          | exact ⟨t'.mail.length - (j + 1), by omega, j + 1, m3, c3, by omega, rfl, hg3, by rw [htk, lastF_snoc]; unfold lastG; rw [if_neg (by omega)]; exact hv3, S.sub _ rfl, M⟩
          | exact ⟨t'.mail.length - (j + 1), by omega, j + 1, _, _, by omega, rfl, hg3.put (hOf s'.l y.name, y.to) (.int .i64 y.n), by rw [htk, lastF_snoc]; unfold lastG; rw [if_pos (by omega)]; exact hv3.put (hOf s'.l y.name) y.to y.n, S.sub _ rfl, M⟩
      clear S; intro h133 S
      refine st_condF S rfl ?_
      refine wp_skip ?_
      refine nxE ?_
      refine st_run [3, 1] S M rfl (by kernel_rfl) ?_; clear S a; intro a S
      refine st_y S rfl rfl rfl (y_buildA (ps := [(0, (Operand.const (Value.int IntKind.i64 0))), (1, (Operand.tmp 135))]) (sz := 1) (z := [.int .i64 0, .int .i64 0]) (cs := [_, _]) S (by kernel_rfl) rfl rfl) ?_; clear S a; intro a S
      refine st_alloc S M rfl rfl #[.int .i64 0, .int .i64 0] (by kernel_rfl) ?_; clear S M a; intro a w38 bK S M hB
      refine st_store (sz := 2) (us := [_, _]) S M 0 rfl (by kernel_rfl) rfl rfl rfl rfl rfl rfl (by first | decide | (simp; done) | (simp; omega)) ?_; clear M; intro w39 M
      simp only [putL, List.set_cons_zero, List.set_cons_succ, Nat.reduceAdd] at M
      replace S := S.sub [(1, _), (2, _), (5, _), (7, _), (8, _), (9, _), (10, _), (11, _), (12, _), (13, _), (15, _), (123, _), (16, _), (133, _), (17, _)] rfl
      refine nxC ?_
      refine wp_seq ?_
      refine nxD ?_
      refine st_go [1] S rfl (by kernel_rfl) ?_; clear S a; intro a S
      refine nxC ?_
      refine wp_block ?_
      refine wp_loop_g (fun m a w' => ∃ (i : Nat), i ≤ s'.l.length ∧ m = s'.l.length - i ∧ Sees 267 a [(1, .slice va l.length vc), (2, .pointer (some ⟨bF, 0, none⟩)), (5, .pointer (some ⟨bS, 0, none⟩)), (7, .map (some bP)), (8, .map (some bQ)), (9, .map (some bU)), (10, .int .i64 (k : Int)), (11, .pointer (some ⟨bA, 0, none⟩)), (12, .pointer (some ⟨bX, 0, none⟩)), (13, .pointer (some ⟨bT, 0, none⟩)), (15, .int .i64 (j : Int)), (16, .pointer (some ⟨bY, 0, none⟩)), (17, .pointer (some ⟨bK, 0, none⟩)), (18, .int .i64 (i : Int))] ∧ Mem w w' (.blk bK #[.int .i64 (hOf (s'.l.take i) y.name), .int .i64 y.to] 62 :: .blk bY (msgL y).toArray 45 :: [rl'.ent 65 37 s'.l.length (fm Ope.cellsL s'.l), ro'.ent 91 5 s'.over.length (fm End_.cellsL s'.over), rm.ent 45 24 t'.mail.length (fm msgL t'.mail), ra.ent 69 13 t'.ans.length (fm Ans.cellsL t'.ans), rs.ent 71 14 t'.seen.length (fm Seen_.cellsL t'.seen), rc.ent 40 3 t'.com.length (fm nmL t'.com), re.ent 40 3 t'.ends.length (fm nmL t'.ends), .blk bT (tolL t' rm ra rs rc re).toArray 54, .blk bX (sesL s' rl' ro').toArray 29, .blk bA (q.cellsL (.slice da q.bs.length dc) (.slice xa q.x.length xc)).toArray 47, rl.ent 65 37 s.l.length (fm Ope.cellsL s.l), ro.ent 91 5 s.over.length (fm End_.cellsL s.over), mapX bU mU2 cU2, mapX bQ m2 c2, mapX bP m3 c3, .blk bS (sesL s rl ro).toArray 29, .blk bF of.cellsL.toArray 22])) (s'.l.length) ?_ ?_
      · skip
        exact ⟨0, Nat.zero_le _, rfl, S.sub _ rfl, M⟩
      clear S M a; intro m a wl
      rintro ⟨i, hi, rfl, S, M⟩
      refine wp_seq ?_
      refine nxD ?_
      refine st_run [1, 1, 11] S M rfl (by kernel_rfl) ?_; clear S a; intro a S
      refine st_y S rfl rfl rfl (y_lenR (E := 65) S rfl (M.readAll 2 rfl (by unfold maxLen; omega)) (by kernel_rfl)) ?_; clear S a; intro a S
      refine st_go [1] S rfl (by kernel_rfl) ?_; clear S a; intro a S
      refine nxC ?_
      refine st_if (t := 141) S rfl ?_ ?_
      · clear S; intro h141 S
        refine st_condT S rfl ?_
        refine wp_skip ?_
        refine then_normal ?_
        refine wp_seq ?_
        refine wp_block ?_
        refine wp_seq ?_
        have hil : i < s'.l.length := by omega
        obtain ⟨o, ho⟩ : ∃ o, s'.l[i]? = some o := ⟨_, List.getElem?_eq_getElem hil⟩
        have hok : hOf (s'.l.take (i + 1)) y.name = if o.nm = y.name then o.h else hOf (s'.l.take i) y.name := by rw [List.take_add_one, ho]; exact hOf_snoc _ _ _
        refine wp_quiet M (by kernel_rfl) (by kernel_rfl) ?_
        refine qt_y S rfl rfl rfl (fun w M => y_fieldAddr (k := 0) S (by kernel_rfl) rfl) ?_; clear S a; intro a S
        refine qt_y S rfl rfl rfl (fun w M => y_load S (by kernel_rfl) rfl (M.cell 10 rfl rfl)) ?_; clear S a; intro a S
        refine qt_y S rfl rfl rfl (fun w M => y_move S rfl) ?_; clear S a; intro a S
        refine qt_y S rfl rfl rfl (fun w M => y_indexR (e := 65) (sz := 37) S (by kernel_rfl) rfl (M.readAll 2 rfl (by unfold maxLen; omega)) rfl (by first | omega | (simp; done) | (simp; omega))) ?_; clear S a; intro a S
        try simp only [Int.toNat_natCast, Nat.mul_one, Nat.zero_add] at S
        refine qt_y S rfl rfl rfl (fun w M => y_fieldAddr (k := 2) S (by kernel_rfl) rfl) ?_; clear S a; intro a S
        refine qt_y S rfl rfl rfl (fun w M => y_loadAgg S (by kernel_rfl) rfl rfl (show CellsAt _ _ _ (nmL o.nm) from ((M.readAll 2 rfl (by unfold maxLen; omega)).at_.row (i := i) (fm_get len_ope ho) rfl).sub (i := 2) (k := 3))) ?_; clear S a; intro a S
        refine qt_y S rfl rfl rfl (fun w M => y_fieldAddr (k := 5) S (by kernel_rfl) rfl) ?_; clear S a; intro a S
        refine qt_y S rfl rfl rfl (fun w M => y_loadAgg (cs := [_, _, _]) S (by kernel_rfl) rfl rfl (M.cellsAt (k := 3) 1 rfl rfl)) ?_; clear S a; intro a S
        refine qt_y S rfl rfl rfl (fun w M => y_eqlG (by kernel_rfl) S rfl rfl (fun w => equalNm 9998 o.nm y.name w)) ?_; clear S a; intro a S
        refine wpQuiet_nil ?_; clear M; intro w40 M
        refine then_normal ?_
        refine st_tils (t := 152) S rfl ?_ ?_
        · clear S; intro h152 S
          refine st_condF S rfl ?_
          refine wp_skip ?_
          refine block_normal ?_
          refine nxF ?_
          refine st_go [1] S rfl (by kernel_rfl) ?_; clear S a; intro a S
          (first | refine st_y S rfl rfl rfl (y_addN S rfl rfl (by omega)) ?_ | refine st_y S rfl rfl rfl (y_int S rfl rfl rfl) ?_); clear S a; intro a S
          refine st_go [1] S rfl (by kernel_rfl) ?_; clear S a; intro a S
          replace S := S.sub [(1, _), (2, _), (5, _), (7, _), (8, _), (9, _), (10, _), (11, _), (12, _), (13, _), (15, _), (16, _), (17, _), (141, _), (152, _), (18, _)] rfl
          refine nxC ?_
          first
            | (rw [if_pos (Nm.eqb_iff.1 h152)] at hok
               refine ⟨s'.l.length - (i + 1), by omega, i + 1, by omega, rfl, S.sub _ rfl, ?_⟩
               rw [hok]; exact M)
            | (rw [if_neg (fun e => by rw [Nm.eqb_iff.2 e] at h152; cases h152)] at hok
               refine ⟨s'.l.length - (i + 1), by omega, i + 1, by omega, rfl, S.sub _ rfl, ?_⟩
               rw [hok]; exact M)
        clear S; intro h152 S
        refine st_condT S rfl ?_
        refine wp_region_lit ?_
        refine st_run [1, 11, 1] S M rfl (by kernel_rfl) ?_; clear S a; intro a S
        refine st_y S rfl rfl rfl (y_indexR (e := 65) (sz := 37) S (by kernel_rfl) rfl (M.readAll 2 rfl (by unfold maxLen; omega)) rfl (by first | omega | (simp; done) | (simp; omega))) ?_; clear S a; intro a S
        try simp only [Int.toNat_natCast, Nat.mul_one, Nat.zero_add] at S
        refine st_go [1] S rfl (by kernel_rfl) ?_; clear S a; intro a S
        refine st_y S rfl rfl rfl (y_load S (by kernel_rfl) rfl ((M.readAll 2 rfl (by unfold maxLen; omega)).at_.row (i := i) (fm_get len_ope ho) rfl 0 (show 0 < 37 by decide))) ?_; clear S a; intro a S
        refine st_y S rfl rfl rfl (y_indexA (m := 2) (sz := 1) S (by kernel_rfl) rfl rfl (by first | omega | (simp; done) | (simp; omega))) ?_; clear S a; intro a S
        refine st_store (sz := 1) (us := [_]) S M 0 rfl (by kernel_rfl) rfl rfl rfl rfl rfl rfl (by first | decide | (simp; done) | (simp; omega)) ?_; clear M; intro w41 M
        simp only [putL, List.set_cons_zero, List.set_cons_succ, Nat.reduceAdd] at M
        replace S := S.sub [(1, _), (2, _), (5, _), (7, _), (8, _), (9, _), (10, _), (11, _), (12, _), (13, _), (15, _), (16, _), (17, _), (18, _), (141, _), (152, _)] rfl
        refine wpList_nil ?_
        refine block_normal ?_
        refine nxF ?_
        refine st_go [1] S rfl (by kernel_rfl) ?_; clear S a; intro a S
        (first | refine st_y S rfl rfl rfl (y_addN S rfl rfl (by omega)) ?_ | refine st_y S rfl rfl rfl (y_int S rfl rfl rfl) ?_); clear S a; intro a S
        refine st_go [1] S rfl (by kernel_rfl) ?_; clear S a; intro a S
        refine nxC ?_
        first
          | (rw [if_pos (Nm.eqb_iff.1 h152)] at hok
             refine ⟨s'.l.length - (i + 1), by omega, i + 1, by omega, rfl, S.sub _ rfl, ?_⟩
             rw [hok]; exact M)
          | (rw [if_neg (fun e => by rw [Nm.eqb_iff.2 e] at h152; cases h152)] at hok
             refine ⟨s'.l.length - (i + 1), by omega, i + 1, by omega, rfl, S.sub _ rfl, ?_⟩
             rw [hok]; exact M)
      clear S; intro h141 S
      refine st_condF S rfl ?_
      refine wp_exit ?_
      refine then_exit ?_
      refine then_exit ?_
      refine block_hit ?_
      refine then_normal ?_
      refine wp_seq ?_
      refine wp_seq ?_
      have hil : s'.l.take i = s'.l := List.take_of_length_le (by omega)
      rw [hil] at M
      have hy2 : y.kind = 2 := by omega
      obtain ⟨hne, hle, hge, htick, hlo, hhi⟩ := hnum.1 j y hy hy2
      refine wp_quiet M (by kernel_rfl) (by kernel_rfl) ?_
      refine qt_y S rfl rfl rfl (fun w M => y_indexA (m := 2) (sz := 1) S (by kernel_rfl) rfl rfl (by first | omega | (simp; done) | (simp; omega))) ?_; clear S a; intro a S
      refine qt_y S rfl rfl rfl (fun w M => y_load S (by kernel_rfl) rfl (M.cell 0 rfl rfl)) ?_; clear S a; intro a S
      refine qt_y S rfl rfl rfl (fun w M => y_int S rfl rfl rfl) ?_; clear S a; intro a S
      refine qt_y S rfl rfl rfl (fun w M => y_move S rfl) ?_; clear S a; intro a S
      refine st_if (t := 163) S rfl ?_ ?_
      · clear S; intro h163 S
        refine qt_skip 5 S rfl ?_; clear S a; intro a S
        refine qt_no S rfl rfl rfl ?_; clear S a; intro a S
        refine qt_y S rfl rfl rfl (fun w M => y_pickT S rfl rfl) ?_; clear S a; intro a S
        refine qt_y S rfl rfl rfl (fun w M => y_move S rfl) ?_; clear S a; intro a S
        refine qt_skip 5 S rfl ?_; clear S a; intro a S
        refine qt_no S rfl rfl rfl ?_; clear S a; intro a S
        refine qt_no S rfl rfl rfl ?_; clear S a; intro a S
        refine qt_y S rfl rfl rfl (fun w M => y_pickT S rfl rfl) ?_; clear S a; intro a S
        refine qt_y S rfl rfl rfl (fun w M => y_move S rfl) ?_; clear S a; intro a S
        refine qt_skip 3 S rfl ?_; clear S a; intro a S
        refine qt_no S rfl rfl rfl ?_; clear S a; intro a S
        refine qt_skip 5 S rfl ?_; clear S a; intro a S
        refine qt_no S rfl rfl rfl ?_; clear S a; intro a S
        refine qt_no S rfl rfl rfl ?_; clear S a; intro a S
        refine qt_y S rfl rfl rfl (fun w M => y_pickT S rfl rfl) ?_; clear S a; intro a S
        refine wpQuiet_nil ?_; clear M; intro w42 M
        replace S := S.sub [(1, _), (2, _), (5, _), (7, _), (8, _), (9, _), (10, _), (11, _), (12, _), (13, _), (15, _), (16, _), (17, _), (18, _), (141, _), (192, _)] rfl
        refine then_normal ?_
        refine st_condT S rfl ?_
        refine nxD ?_
        refine st_go [1] S rfl (by kernel_rfl) ?_; clear S a; intro a S
        refine nxC ?_
        refine wp_ret ?_
        refine then_ret ?_
        refine block_ret ?_
        refine then_ret ?_
        refine then_ret ?_
        refine block_ret ?_
        refine then_ret ?_
        refine block_ret ?_
        refine then_ret ?_
        refine then_ret ?_
        refine block_ret ?_
        refine then_ret ?_
        refine end_one S rfl (res_tmp rfl) ?_
        first
          | exact ⟨rfl, M.below⟩
          | (exfalso; omega)
      clear S; intro h163 S
      refine qt_y S rfl rfl rfl (fun w M => y_fieldAddr (k := 8) S (by kernel_rfl) rfl) ?_; clear S a; intro a S
      refine qt_y S rfl rfl rfl (fun w M => y_load S (by kernel_rfl) rfl (M.cell 1 rfl rfl)) ?_; clear S a; intro a S
      refine qt_y S rfl rfl rfl (fun w M => y_move S rfl) ?_; clear S a; intro a S
      refine qt_y S rfl rfl rfl (fun w M => y_loadAgg (cs := [_, _]) S (by kernel_rfl) rfl rfl (M.cellsAt (k := 2) 0 rfl rfl)) ?_; clear S a; intro a S
      refine qt_y S rfl rfl rfl (fun w M => y_lookupM (pos := 16) S M (key2) (hg3) (k := (hOf s'.l y.name, y.to)) Try.underlying33 (zero_i64) rfl rfl rfl) ?_; clear S a; intro a S
      simp only [Bool.false_eq_true, if_false, hv3 (hOf s'.l y.name) y.to] at S
      refine qt_y S rfl rfl rfl (fun w M => y_int S rfl rfl rfl) ?_; clear S a; intro a S
      refine qt_y S rfl rfl rfl (fun w M => y_pickF S rfl rfl) ?_; clear S a; intro a S
      refine qt_y S rfl rfl rfl (fun w M => y_move S rfl) ?_; clear S a; intro a S
      refine st_if (t := 171) S rfl ?_ ?_
      · clear S; intro h171 S
        refine qt_skip 5 S rfl ?_; clear S a; intro a S
        refine qt_no S rfl rfl rfl ?_; clear S a; intro a S
        refine qt_no S rfl rfl rfl ?_; clear S a; intro a S
        refine qt_y S rfl rfl rfl (fun w M => y_pickT S rfl rfl) ?_; clear S a; intro a S
        refine qt_y S rfl rfl rfl (fun w M => y_move S rfl) ?_; clear S a; intro a S
        refine qt_skip 3 S rfl ?_; clear S a; intro a S
        refine qt_no S rfl rfl rfl ?_; clear S a; intro a S
        refine qt_skip 5 S rfl ?_; clear S a; intro a S
        refine qt_no S rfl rfl rfl ?_; clear S a; intro a S
        refine qt_no S rfl rfl rfl ?_; clear S a; intro a S
        refine qt_y S rfl rfl rfl (fun w M => y_pickT S rfl rfl) ?_; clear S a; intro a S
        refine wpQuiet_nil ?_; clear M; intro w43 M
        replace S := S.sub [(1, _), (2, _), (5, _), (7, _), (8, _), (9, _), (10, _), (11, _), (12, _), (13, _), (15, _), (16, _), (17, _), (18, _), (141, _), (192, _)] rfl
        refine then_normal ?_
        refine st_condT S rfl ?_
        refine nxD ?_
        refine st_go [1] S rfl (by kernel_rfl) ?_; clear S a; intro a S
        refine nxC ?_
        refine wp_ret ?_
        refine then_ret ?_
        refine block_ret ?_
        refine then_ret ?_
        refine then_ret ?_
        refine block_ret ?_
        refine then_ret ?_
        refine block_ret ?_
        refine then_ret ?_
        refine then_ret ?_
        refine block_ret ?_
        refine then_ret ?_
        refine end_one S rfl (res_tmp rfl) ?_
        first
          | exact ⟨rfl, M.below⟩
          | (exfalso; omega)
      clear S; intro h171 S
      refine qt_y S rfl rfl rfl (fun w M => y_fieldAddr (k := 8) S (by kernel_rfl) rfl) ?_; clear S a; intro a S
      refine qt_y S rfl rfl rfl (fun w M => y_load S (by kernel_rfl) rfl (M.cell 1 rfl rfl)) ?_; clear S a; intro a S
      refine qt_y S rfl rfl rfl (fun w M => y_move S rfl) ?_; clear S a; intro a S
      refine qt_y S rfl rfl rfl (fun w M => y_loadAgg (cs := [_, _]) S (by kernel_rfl) rfl rfl (M.cellsAt (k := 2) 0 rfl rfl)) ?_; clear S a; intro a S
      refine qt_y S rfl rfl rfl (fun w M => y_lookupM (pos := 16) S M (key2) (hg3) (k := (hOf s'.l y.name, y.to)) Try.underlying33 (zero_i64) rfl rfl rfl) ?_; clear S a; intro a S
      simp only [Bool.false_eq_true, if_false, hv3 (hOf s'.l y.name) y.to] at S
      (first | refine qt_y S rfl rfl rfl (fun w M => y_addN S rfl rfl (by omega)) ?_ | refine qt_y S rfl rfl rfl (fun w M => y_int S rfl rfl rfl) ?_); clear S a; intro a S
      refine qt_y S rfl rfl rfl (fun w M => y_int S rfl rfl rfl) ?_; clear S a; intro a S
      refine qt_y S rfl rfl rfl (fun w M => y_pickF S rfl rfl) ?_; clear S a; intro a S
      refine qt_y S rfl rfl rfl (fun w M => y_move S rfl) ?_; clear S a; intro a S
      refine st_if (t := 180) S rfl ?_ ?_
      · clear S; intro h180 S
        refine qt_skip 3 S rfl ?_; clear S a; intro a S
        refine qt_no S rfl rfl rfl ?_; clear S a; intro a S
        refine qt_skip 5 S rfl ?_; clear S a; intro a S
        refine qt_no S rfl rfl rfl ?_; clear S a; intro a S
        refine qt_no S rfl rfl rfl ?_; clear S a; intro a S
        refine qt_y S rfl rfl rfl (fun w M => y_pickT S rfl rfl) ?_; clear S a; intro a S
        refine wpQuiet_nil ?_; clear M; intro w44 M
        replace S := S.sub [(1, _), (2, _), (5, _), (7, _), (8, _), (9, _), (10, _), (11, _), (12, _), (13, _), (15, _), (16, _), (17, _), (18, _), (141, _), (192, _)] rfl
        refine then_normal ?_
        refine st_condT S rfl ?_
        refine nxD ?_
        refine st_go [1] S rfl (by kernel_rfl) ?_; clear S a; intro a S
        refine nxC ?_
        refine wp_ret ?_
        refine then_ret ?_
        refine block_ret ?_
        refine then_ret ?_
        refine then_ret ?_
        refine block_ret ?_
        refine then_ret ?_
        refine block_ret ?_
        refine then_ret ?_
        refine then_ret ?_
        refine block_ret ?_
        refine then_ret ?_
        refine end_one S rfl (res_tmp rfl) ?_
        first
          | exact ⟨rfl, M.below⟩
          | (exfalso; omega)
      clear S; intro h180 S
      refine qt_y S rfl rfl rfl (fun w M => y_fieldAddr (k := 0) S (by kernel_rfl) rfl) ?_; clear S a; intro a S
      refine qt_y S rfl rfl rfl (fun w M => y_load S (by kernel_rfl) rfl (M.cell 11 rfl rfl)) ?_; clear S a; intro a S
      refine qt_y S rfl rfl rfl (fun w M => y_int S rfl rfl rfl) ?_; clear S a; intro a S
      refine qt_y S rfl rfl rfl (fun w M => y_move S rfl) ?_; clear S a; intro a S
      refine st_fi (t := 184) S rfl ?_ ?_
      · clear S; intro h184 S
        refine qt_skip 5 S rfl ?_; clear S a; intro a S
        refine qt_no S rfl rfl rfl ?_; clear S a; intro a S
        refine qt_y S rfl rfl rfl (fun w M => y_pickF S rfl rfl) ?_; clear S a; intro a S
        refine qt_y S rfl rfl rfl (fun w M => y_pickF S rfl rfl) ?_; clear S a; intro a S
        refine wpQuiet_nil ?_; clear M; intro w47 M
        replace S := S.sub [(1, _), (2, _), (5, _), (7, _), (8, _), (9, _), (10, _), (11, _), (12, _), (13, _), (15, _), (16, _), (17, _), (18, _), (141, _), (192, _)] rfl
        refine then_normal ?_
        refine st_condF S rfl ?_
        refine wp_skip ?_
        refine nxF ?_
        refine st_go [1] S rfl (by kernel_rfl) ?_; clear S a; intro a S
        refine st_y S rfl rfl rfl (y_loadAgg (cs := [_, _]) S (by kernel_rfl) rfl rfl (M.cellsAt (k := 2) 0 rfl rfl)) ?_; clear S a; intro a S
        refine st_run [9, 2] S M rfl (by kernel_rfl) ?_; clear S a; intro a S
        refine st_updateM (pos := 16) S M (key2) (hg3) (k := (hOf s'.l y.name, y.to)) Try.underlying33 rfl rfl rfl rfl rfl ?_; clear M; intro w48 M
        simp only [List.set_cons_zero, List.set_cons_succ] at M
        refine wpList_nil ?_
        refine block_normal ?_
        refine nxF ?_
        refine st_go [1] S rfl (by kernel_rfl) ?_; clear S a; intro a S
        (first | refine st_y S rfl rfl rfl (y_addN S rfl rfl (by omega)) ?_ | refine st_y S rfl rfl rfl (y_int S rfl rfl rfl) ?_); clear S a; intro a S
        refine st_go [1] S rfl (by kernel_rfl) ?_; clear S a; intro a S
        refine nxC ?_
        replace M := M.front 18 rfl
        simp only [List.eraseIdx_cons_succ, List.eraseIdx_cons_zero] at M
        replace M := M.front 18 rfl
        simp only [List.eraseIdx_cons_succ, List.eraseIdx_cons_zero] at M
        replace M := M.front 18 rfl
        simp only [List.eraseIdx_cons_succ, List.eraseIdx_cons_zero] at M
        replace M := M.front 18 rfl
        simp only [List.eraseIdx_cons_succ, List.eraseIdx_cons_zero] at M
        replace M := M.front 18 rfl
        simp only [List.eraseIdx_cons_succ, List.eraseIdx_cons_zero] at M
        replace M := M.front 18 rfl
        simp only [List.eraseIdx_cons_succ, List.eraseIdx_cons_zero] at M
        replace M := M.front 18 rfl
        simp only [List.eraseIdx_cons_succ, List.eraseIdx_cons_zero] at M
        replace M := M.front 18 rfl
        simp only [List.eraseIdx_cons_succ, List.eraseIdx_cons_zero] at M
        replace M := M.front 18 rfl
        simp only [List.eraseIdx_cons_succ, List.eraseIdx_cons_zero] at M
        replace M := M.front 18 rfl
        simp only [List.eraseIdx_cons_succ, List.eraseIdx_cons_zero] at M
        replace M := M.front 18 rfl
        simp only [List.eraseIdx_cons_succ, List.eraseIdx_cons_zero] at M
        replace M := M.front 18 rfl
        simp only [List.eraseIdx_cons_succ, List.eraseIdx_cons_zero] at M
        replace M := M.front 18 rfl
        simp only [List.eraseIdx_cons_succ, List.eraseIdx_cons_zero] at M
        replace M := M.front 18 rfl
        simp only [List.eraseIdx_cons_succ, List.eraseIdx_cons_zero] at M
        replace M := M.front 18 rfl
        simp only [List.eraseIdx_cons_succ, List.eraseIdx_cons_zero] at M
        replace M := M.front 18 rfl
        simp only [List.eraseIdx_cons_succ, List.eraseIdx_cons_zero] at M
        replace M := M.front 18 rfl
        simp only [List.eraseIdx_cons_succ, List.eraseIdx_cons_zero] at M
        replace M := M.pre 17
        first
          | exact ⟨t'.mail.length - (j + 1), by omega, j + 1, m3, c3, by omega, rfl, hg3, by rw [htk, lastF_snoc]; unfold lastG; rw [if_neg (by omega)]; exact hv3, S.sub _ rfl, M⟩
          | exact ⟨t'.mail.length - (j + 1), by omega, j + 1, _, _, by omega, rfl, hg3.put (hOf s'.l y.name, y.to) (.int .i64 y.n), by rw [htk, lastF_snoc]; unfold lastG; rw [if_pos (by omega)]; exact hv3.put (hOf s'.l y.name) y.to y.n, S.sub _ rfl, M⟩
      clear S; intro h184 S
      refine qt_y S rfl rfl rfl (fun w M => y_fieldAddr (k := 8) S (by kernel_rfl) rfl) ?_; clear S a; intro a S
      refine qt_y S rfl rfl rfl (fun w M => y_load S (by kernel_rfl) rfl (M.cell 1 rfl rfl)) ?_; clear S a; intro a S
      refine qt_y S rfl rfl rfl (fun w M => y_move S rfl) ?_; clear S a; intro a S
      refine qt_y S rfl rfl rfl (fun w M => y_loadAgg (cs := [_, _]) S (by kernel_rfl) rfl rfl (M.cellsAt (k := 2) 0 rfl rfl)) ?_; clear S a; intro a S
      refine qt_y S rfl rfl rfl (fun w M => y_lookupM (pos := 16) S M (key2) (hg3) (k := (hOf s'.l y.name, y.to)) Try.underlying33 (zero_i64) rfl rfl rfl) ?_; clear S a; intro a S
      simp only [Bool.false_eq_true, if_false, hv3 (hOf s'.l y.name) y.to] at S
      refine qt_y S rfl rfl rfl (fun w M => y_int S rfl rfl rfl) ?_; clear S a; intro a S
      refine qt_y S rfl rfl rfl (fun w M => y_pickT S rfl rfl) ?_; clear S a; intro a S
      refine qt_y S rfl rfl rfl (fun w M => y_pickF S rfl rfl) ?_; clear S a; intro a S
      refine wpQuiet_nil ?_; clear M; intro w45 M
      replace S := S.sub [(1, _), (2, _), (5, _), (7, _), (8, _), (9, _), (10, _), (11, _), (12, _), (13, _), (15, _), (16, _), (17, _), (18, _), (141, _), (192, _)] rfl
      refine then_normal ?_
      refine st_if (t := 192) S rfl ?_ ?_
      · clear S; intro h192 S
        refine st_condT S rfl ?_
        refine nxD ?_
        refine st_go [1] S rfl (by kernel_rfl) ?_; clear S a; intro a S
        refine nxC ?_
        refine wp_ret ?_
        refine then_ret ?_
        refine block_ret ?_
        refine then_ret ?_
        refine then_ret ?_
        refine block_ret ?_
        refine then_ret ?_
        refine block_ret ?_
        refine then_ret ?_
        refine then_ret ?_
        refine block_ret ?_
        refine then_ret ?_
        refine end_one S rfl (res_tmp rfl) ?_
        first
          | exact ⟨rfl, M.below⟩
          | (exfalso; omega)
      clear S; intro h192 S
      refine st_condF S rfl ?_
      refine wp_skip ?_
      refine nxF ?_
      refine st_go [1] S rfl (by kernel_rfl) ?_; clear S a; intro a S
      refine st_y S rfl rfl rfl (y_loadAgg (cs := [_, _]) S (by kernel_rfl) rfl rfl (M.cellsAt (k := 2) 0 rfl rfl)) ?_; clear S a; intro a S
      refine st_run [9, 2] S M rfl (by kernel_rfl) ?_; clear S a; intro a S
      refine st_updateM (pos := 16) S M (key2) (hg3) (k := (hOf s'.l y.name, y.to)) Try.underlying33 rfl rfl rfl rfl rfl ?_; clear M; intro w46 M
      simp only [List.set_cons_zero, List.set_cons_succ] at M
      refine wpList_nil ?_
      refine block_normal ?_
      refine nxF ?_
      refine st_go [1] S rfl (by kernel_rfl) ?_; clear S a; intro a S
      (first | refine st_y S rfl rfl rfl (y_addN S rfl rfl (by omega)) ?_ | refine st_y S rfl rfl rfl (y_int S rfl rfl rfl) ?_); clear S a; intro a S
      refine st_go [1] S rfl (by kernel_rfl) ?_; clear S a; intro a S
      refine nxC ?_
      replace M := M.front 18 rfl
      simp only [List.eraseIdx_cons_succ, List.eraseIdx_cons_zero] at M
      replace M := M.front 18 rfl
      simp only [List.eraseIdx_cons_succ, List.eraseIdx_cons_zero] at M
      replace M := M.front 18 rfl
      simp only [List.eraseIdx_cons_succ, List.eraseIdx_cons_zero] at M
      replace M := M.front 18 rfl
      simp only [List.eraseIdx_cons_succ, List.eraseIdx_cons_zero] at M
      replace M := M.front 18 rfl
      simp only [List.eraseIdx_cons_succ, List.eraseIdx_cons_zero] at M
      replace M := M.front 18 rfl
      simp only [List.eraseIdx_cons_succ, List.eraseIdx_cons_zero] at M
      replace M := M.front 18 rfl
      simp only [List.eraseIdx_cons_succ, List.eraseIdx_cons_zero] at M
      replace M := M.front 18 rfl
      simp only [List.eraseIdx_cons_succ, List.eraseIdx_cons_zero] at M
      replace M := M.front 18 rfl
      simp only [List.eraseIdx_cons_succ, List.eraseIdx_cons_zero] at M
      replace M := M.front 18 rfl
      simp only [List.eraseIdx_cons_succ, List.eraseIdx_cons_zero] at M
      replace M := M.front 18 rfl
      simp only [List.eraseIdx_cons_succ, List.eraseIdx_cons_zero] at M
      replace M := M.front 18 rfl
      simp only [List.eraseIdx_cons_succ, List.eraseIdx_cons_zero] at M
      replace M := M.front 18 rfl
      simp only [List.eraseIdx_cons_succ, List.eraseIdx_cons_zero] at M
      replace M := M.front 18 rfl
      simp only [List.eraseIdx_cons_succ, List.eraseIdx_cons_zero] at M
      replace M := M.front 18 rfl
      simp only [List.eraseIdx_cons_succ, List.eraseIdx_cons_zero] at M
      replace M := M.front 18 rfl
      simp only [List.eraseIdx_cons_succ, List.eraseIdx_cons_zero] at M
      replace M := M.front 18 rfl
      simp only [List.eraseIdx_cons_succ, List.eraseIdx_cons_zero] at M
      replace M := M.pre 17
      first
        | exact ⟨t'.mail.length - (j + 1), by omega, j + 1, m3, c3, by omega, rfl, hg3, by rw [htk, lastF_snoc]; unfold lastG; rw [if_neg (by omega)]; exact hv3, S.sub _ rfl, M⟩
        | exact ⟨t'.mail.length - (j + 1), by omega, j + 1, _, _, by omega, rfl, hg3.put (hOf s'.l y.name, y.to) (.int .i64 y.n), by rw [htk, lastF_snoc]; unfold lastG; rw [if_pos (by omega)]; exact hv3.put (hOf s'.l y.name) y.to y.n, S.sub _ rfl, M⟩
    clear S; intro h123 S
    refine st_condF S rfl ?_
    refine wp_exit ?_
    refine then_exit ?_
    refine then_exit ?_
    refine block_hit ?_
    refine then_normal ?_
    refine wp_seq ?_
    refine wp_seq ?_
    have hjl : t'.mail.take j = t'.mail := List.take_of_length_le (by omega)
    rw [hjl] at hv3
    refine wp_region_lit ?_
    refine st_run [2, 9, 2, 16, 1, 1] S M rfl (by kernel_rfl) ?_; clear S a; intro a S
    refine st_if (t := 202) S rfl ?_ ?_
    · clear S; intro h202 S
      refine st_go [0, 0, 0, 0, 0, 0, 1] S rfl (by kernel_rfl) ?_; clear S a; intro a S
      replace S := S.sub [(1, _), (2, _), (5, _), (7, _), (8, _), (9, _), (10, _), (11, _), (12, _), (13, _), (15, _), (123, _), (209, _)] rfl
      refine nxC ?_
      refine st_condT S rfl ?_
      refine nxD ?_
      refine st_go [1] S rfl (by kernel_rfl) ?_; clear S a; intro a S
      refine nxC ?_
      refine wp_ret ?_
      refine then_ret ?_
      refine block_ret ?_
      refine then_ret ?_
      refine then_ret ?_
      refine block_ret ?_
      refine then_ret ?_
      refine end_one S rfl (res_tmp rfl) ?_
      first
        | exact ⟨rfl, M.below⟩
        | (exfalso; omega)
    clear S; intro h202 S
    refine st_run [2, 9, 2, 16] S M rfl (by kernel_rfl) ?_; clear S a; intro a S
    (first | refine st_y S rfl rfl rfl (y_addN S rfl rfl (by omega)) ?_ | refine st_y S rfl rfl rfl (y_int S rfl rfl rfl) ?_); clear S a; intro a S
    refine st_go [1, 1] S rfl (by kernel_rfl) ?_; clear S a; intro a S
    replace S := S.sub [(1, _), (2, _), (5, _), (7, _), (8, _), (9, _), (10, _), (11, _), (12, _), (13, _), (15, _), (123, _), (209, _)] rfl
    refine nxC ?_
    refine st_if (t := 209) S rfl ?_ ?_
    · clear S; intro h209 S
      refine st_condT S rfl ?_
      refine nxD ?_
      refine st_go [1] S rfl (by kernel_rfl) ?_; clear S a; intro a S
      refine nxC ?_
      refine wp_ret ?_
      refine then_ret ?_
      refine block_ret ?_
      refine then_ret ?_
      refine then_ret ?_
      refine block_ret ?_
      refine then_ret ?_
      refine end_one S rfl (res_tmp rfl) ?_
      first
        | exact ⟨rfl, M.below⟩
        | (exfalso; omega)
    clear S; intro h209 S
    refine st_condF S rfl ?_
    refine wp_skip ?_
    refine then_normal ?_
    refine wp_cut (fun a w' => ∃ (T2 : Int → Int → Int) (m4 : Mes (Int × Int)) (c4 : Nat), NI s' (lastF s'.l g t'.mail) T2 ∧ Good enc2 m4 c4 ∧ CV2 m4 T2 ∧ Sees 267 a [(1, .slice va l.length vc), (2, .pointer (some ⟨bF, 0, none⟩)), (5, .pointer (some ⟨bS, 0, none⟩)), (7, .map (some bP)), (8, .map (some bQ)), (9, .map (some bU)), (10, .int .i64 (k : Int)), (12, .pointer (some ⟨bX, 0, none⟩))] ∧ Mem w w' [rl'.ent 65 37 s'.l.length (fm Ope.cellsL s'.l), ro'.ent 91 5 s'.over.length (fm End_.cellsL s'.over), rm.ent 45 24 t'.mail.length (fm msgL t'.mail), ra.ent 69 13 t'.ans.length (fm Ans.cellsL t'.ans), rs.ent 71 14 t'.seen.length (fm Seen_.cellsL t'.seen), rc.ent 40 3 t'.com.length (fm nmL t'.com), re.ent 40 3 t'.ends.length (fm nmL t'.ends), .blk bT (tolL t' rm ra rs rc re).toArray 54, .blk bX (sesL s' rl' ro').toArray 29, .blk bA (q.cellsL (.slice da q.bs.length dc) (.slice xa q.x.length xc)).toArray 47, rl.ent 65 37 s.l.length (fm Ope.cellsL s.l), ro.ent 91 5 s.over.length (fm End_.cellsL s.over), mapX bU mU2 cU2, mapX bQ m4 c4, mapX bP m3 c3, .blk bS (sesL s rl ro).toArray 29, .blk bF of.cellsL.toArray 22]) ?_ ?_
    · skip
      refine nxD ?_
      refine st_run [2, 9, 2, 16, 1, 1] S M rfl (by kernel_rfl) ?_; clear S a; intro a S
      refine st_fi (t := 215) S rfl ?_ ?_
      · clear S; intro h215 S
        refine st_go [0, 0, 0, 0, 1] S rfl (by kernel_rfl) ?_; clear S a; intro a S
        refine nxC ?_
        refine st_condF S rfl ?_
        refine wp_skip ?_
        refine then_normal ?_
        replace M := M.front 16 rfl
        simp only [List.eraseIdx_cons_succ, List.eraseIdx_cons_zero] at M
        replace M := M.front 16 rfl
        simp only [List.eraseIdx_cons_succ, List.eraseIdx_cons_zero] at M
        replace M := M.front 16 rfl
        simp only [List.eraseIdx_cons_succ, List.eraseIdx_cons_zero] at M
        replace M := M.front 16 rfl
        simp only [List.eraseIdx_cons_succ, List.eraseIdx_cons_zero] at M
        replace M := M.front 16 rfl
        simp only [List.eraseIdx_cons_succ, List.eraseIdx_cons_zero] at M
        replace M := M.front 16 rfl
        simp only [List.eraseIdx_cons_succ, List.eraseIdx_cons_zero] at M
        replace M := M.front 16 rfl
        simp only [List.eraseIdx_cons_succ, List.eraseIdx_cons_zero] at M
        replace M := M.front 16 rfl
        simp only [List.eraseIdx_cons_succ, List.eraseIdx_cons_zero] at M
        replace M := M.front 16 rfl
        simp only [List.eraseIdx_cons_succ, List.eraseIdx_cons_zero] at M
        replace M := M.front 16 rfl
        simp only [List.eraseIdx_cons_succ, List.eraseIdx_cons_zero] at M
        replace M := M.front 16 rfl
        simp only [List.eraseIdx_cons_succ, List.eraseIdx_cons_zero] at M
        replace M := M.front 16 rfl
        simp only [List.eraseIdx_cons_succ, List.eraseIdx_cons_zero] at M
        replace M := M.front 16 rfl
        simp only [List.eraseIdx_cons_succ, List.eraseIdx_cons_zero] at M
        replace M := M.front 16 rfl
        simp only [List.eraseIdx_cons_succ, List.eraseIdx_cons_zero] at M
        replace M := M.front 16 rfl
        simp only [List.eraseIdx_cons_succ, List.eraseIdx_cons_zero] at M
        replace M := M.front 16 rfl
        simp only [List.eraseIdx_cons_succ, List.eraseIdx_cons_zero] at M
        replace M := M.front 16 rfl
        simp only [List.eraseIdx_cons_succ, List.eraseIdx_cons_zero] at M
        replace M := M.pre 17
        first
          | exact ⟨_, _, _, hN2, hI.g2.put (o9.c, o9.nm.stamp) _, hI.v2.put o9.c o9.nm.stamp _, S.sub _ rfl, M⟩
          | (obtain ⟨-, hN2⟩ : s'.last = s.last ∧ NI s' (lastF s'.l g t'.mail) T := by
               rcases hnum.2 with h | ⟨st, tr, e1, e2, -⟩
               · exact h
               · have hlx : s'.l.length = s.l.length + 1 := by rw [e2]; simp
                 omega
             exact ⟨T, m2, c2, hN2, hI.g2, hI.v2, S.sub _ rfl, M⟩)
      clear S; intro h215 S
      refine st_run [1, 9] S M rfl (by kernel_rfl) ?_; clear S a; intro a S
      refine st_y S rfl rfl rfl (y_lenR (E := 65) S rfl (M.readAll 0 rfl (by unfold maxLen; omega)) (by kernel_rfl)) ?_; clear S a; intro a S
      refine st_go [1, 1] S rfl (by kernel_rfl) ?_; clear S a; intro a S
      refine nxC ?_
      refine st_fi (t := 220) S rfl ?_ ?_
      · clear S; intro h220 S
        refine st_condF S rfl ?_
        refine wp_skip ?_
        refine then_normal ?_
        replace M := M.front 16 rfl
        simp only [List.eraseIdx_cons_succ, List.eraseIdx_cons_zero] at M
        replace M := M.front 16 rfl
        simp only [List.eraseIdx_cons_succ, List.eraseIdx_cons_zero] at M
        replace M := M.front 16 rfl
        simp only [List.eraseIdx_cons_succ, List.eraseIdx_cons_zero] at M
        replace M := M.front 16 rfl
        simp only [List.eraseIdx_cons_succ, List.eraseIdx_cons_zero] at M
        replace M := M.front 16 rfl
        simp only [List.eraseIdx_cons_succ, List.eraseIdx_cons_zero] at M
        replace M := M.front 16 rfl
        simp only [List.eraseIdx_cons_succ, List.eraseIdx_cons_zero] at M
        replace M := M.front 16 rfl
        simp only [List.eraseIdx_cons_succ, List.eraseIdx_cons_zero] at M
        replace M := M.front 16 rfl
        simp only [List.eraseIdx_cons_succ, List.eraseIdx_cons_zero] at M
        replace M := M.front 16 rfl
        simp only [List.eraseIdx_cons_succ, List.eraseIdx_cons_zero] at M
        replace M := M.front 16 rfl
        simp only [List.eraseIdx_cons_succ, List.eraseIdx_cons_zero] at M
        replace M := M.front 16 rfl
        simp only [List.eraseIdx_cons_succ, List.eraseIdx_cons_zero] at M
        replace M := M.front 16 rfl
        simp only [List.eraseIdx_cons_succ, List.eraseIdx_cons_zero] at M
        replace M := M.front 16 rfl
        simp only [List.eraseIdx_cons_succ, List.eraseIdx_cons_zero] at M
        replace M := M.front 16 rfl
        simp only [List.eraseIdx_cons_succ, List.eraseIdx_cons_zero] at M
        replace M := M.front 16 rfl
        simp only [List.eraseIdx_cons_succ, List.eraseIdx_cons_zero] at M
        replace M := M.front 16 rfl
        simp only [List.eraseIdx_cons_succ, List.eraseIdx_cons_zero] at M
        replace M := M.front 16 rfl
        simp only [List.eraseIdx_cons_succ, List.eraseIdx_cons_zero] at M
        replace M := M.pre 17
        first
          | exact ⟨_, _, _, hN2, hI.g2.put (o9.c, o9.nm.stamp) _, hI.v2.put o9.c o9.nm.stamp _, S.sub _ rfl, M⟩
          | (obtain ⟨-, hN2⟩ : s'.last = s.last ∧ NI s' (lastF s'.l g t'.mail) T := by
               rcases hnum.2 with h | ⟨st, tr, e1, e2, -⟩
               · exact h
               · have hlx : s'.l.length = s.l.length + 1 := by rw [e2]; simp
                 omega
             exact ⟨T, m2, c2, hN2, hI.g2, hI.v2, S.sub _ rfl, M⟩)
      clear S; intro h220 S
      refine st_condT S rfl ?_
      refine wp_seq ?_
      obtain ⟨o9, e1, e2, e3, e4, e5, hN2⟩ : ∃ o9 : Ope, s'.last = s.last + 1 ∧ s'.l = s.l ++ [o9] ∧ (0 ≤ T o9.c o9.nm.stamp ∧ T o9.c o9.nm.stamp < o9.nm.try_ ∧ o9.nm.try_ ≤ 1048576) ∧ (q.c.stamp ≠ 0 → o9.nm.try_ = T o9.c o9.nm.stamp + 1) ∧ o9.h = s'.last ∧ NI s' (lastF s'.l g t'.mail) (put2 T o9.c o9.nm.stamp (max (T o9.c o9.nm.stamp) o9.nm.try_)) := by
        rcases hnum.2 with ⟨h, -⟩ | ⟨st, tr, e1, e2, e3, e4, e5⟩
        · omega
        · exact ⟨_, e1, e2, ⟨e3.1, by show T q.c.c st < tr + 1; omega, by show tr + 1 ≤ 1048576; omega⟩, fun h => by show tr + 1 = T q.c.c st + 1; rw [← e4 h], e1.symm, e5⟩
      have hlx : s'.l.length = s.l.length + 1 := by rw [e2]; simp
      have hgx : s'.l[s.l.length]? = some o9 := by rw [e2]; simp
      have hv2 := hI.v2
      refine wp_region_lit ?_
      refine st_run [1, 9, 1, 9] S M rfl (by kernel_rfl) ?_; clear S a; intro a S
      refine st_y S rfl rfl rfl (y_lenR (E := 65) S rfl (M.readAll 0 rfl (by unfold maxLen; omega)) (by kernel_rfl)) ?_; clear S a; intro a S
      (first | refine st_y S rfl rfl rfl (y_subN S rfl rfl (by omega)) ?_ | refine st_y S rfl rfl rfl (y_int S rfl rfl rfl) ?_); clear S a; intro a S
      rw [show (s'.l.length : Int) - 1 = ((s.l.length : Nat) : Int) by omega] at S
      refine st_y S rfl rfl rfl (y_indexR (e := 65) (sz := 37) S (by kernel_rfl) rfl (M.readAll 0 rfl (by unfold maxLen; omega)) rfl (by first | omega | (simp; done) | (simp; omega))) ?_; clear S a; intro a S
      try simp only [Int.toNat_natCast, Nat.mul_one, Nat.zero_add] at S
      refine st_y S rfl rfl rfl (y_loadAgg S (by kernel_rfl) rfl rfl ((M.readAll 0 rfl (by unfold maxLen; omega)).at_.row (i := s.l.length) (fm_get len_ope hgx) rfl)) ?_; clear S a; intro a S
      refine st_alloc S M rfl rfl #[.int .i64 0, .int .i64 0, .int .i64 0, .int .i64 0, .int .i64 0, .int .i8 0, .int .i64 0, .int .i64 0, .int .i64 0, .int .i64 0, .int .i64 0, .int .i64 0, .int .i64 0, .int .i8 0, .int .i64 0, .int .i64 0, .int .i64 0, .int .i64 0, .int .i64 0, .int .i64 0, .int .i64 0, .int .i64 0, .int .i8 0, .int .i64 0, .int .u8 0, .int .u8 0, .int .u8 0, .int .u8 0, .int .u8 0, .int .u8 0, .int .u8 0, .int .u8 0, .int .i64 0, .bool false, .int .i64 0, .int .i64 0, .slice none 0 0] (by kernel_rfl) ?_; clear S M a; intro a w49 bN S M hB
      refine st_store (sz := 37) (us := [_, _, _, _, _, _, _, _, _, _, _, _, _, _, _, _, _, _, _, _, _, _, _, _, _, _, _, _, _, _, _, _, _, _, _, _, _]) S M 0 rfl (by kernel_rfl) rfl rfl rfl rfl rfl rfl (by first | decide | (simp; done) | (simp; omega)) ?_; clear M; intro w50 M
      simp only [putL, List.set_cons_zero, List.set_cons_succ, Nat.reduceAdd] at M
      replace S := S.sub [(1, _), (2, _), (5, _), (7, _), (8, _), (9, _), (10, _), (11, _), (12, _), (13, _), (15, _), (123, _), (209, _), (220, _), (19, _)] rfl
      refine nxA ?_
      refine st_run [2, 1, 3, 1, 1] S M rfl (by kernel_rfl) ?_; clear S a; intro a S
      refine st_y S rfl rfl rfl (y_buildA (ps := [(0, (Operand.tmp 230)), (1, (Operand.tmp 233))]) (sz := 1) (z := [.int .i64 0, .int .i64 0]) (cs := [_, _]) S (by kernel_rfl) rfl rfl) ?_; clear S a; intro a S
      refine st_alloc S M rfl rfl #[.int .i64 0, .int .i64 0] (by kernel_rfl) ?_; clear S M a; intro a w51 bK2 S M hB
      refine st_store (sz := 2) (us := [_, _]) S M 0 rfl (by kernel_rfl) rfl rfl rfl rfl rfl rfl (by first | decide | (simp; done) | (simp; omega)) ?_; clear M; intro w52 M
      simp only [putL, List.set_cons_zero, List.set_cons_succ, Nat.reduceAdd] at M
      refine nxC ?_
      refine wp_seq ?_
      refine wp_seq ?_
      refine wp_quiet M (by kernel_rfl) (by kernel_rfl) ?_
      refine qt_y S rfl rfl rfl (fun w M => y_fieldAddr (k := 1) S (by kernel_rfl) rfl) ?_; clear S a; intro a S
      refine qt_y S rfl rfl rfl (fun w M => y_fieldAddr (k := 5) S (by kernel_rfl) rfl) ?_; clear S a; intro a S
      refine qt_y S rfl rfl rfl (fun w M => y_load S (by kernel_rfl) rfl (M.cell 11 rfl rfl)) ?_; clear S a; intro a S
      refine qt_y S rfl rfl rfl (fun w M => y_int S rfl rfl rfl) ?_; clear S a; intro a S
      refine qt_y S rfl rfl rfl (fun w M => y_move S rfl) ?_; clear S a; intro a S
      refine st_fi (t := 239) S rfl ?_ ?_
      · clear S; intro h239 S
        refine qt_skip 6 S rfl ?_; clear S a; intro a S
        refine qt_no S rfl rfl rfl ?_; clear S a; intro a S
        refine qt_no S rfl rfl rfl ?_; clear S a; intro a S
        refine qt_y S rfl rfl rfl (fun w M => y_pickF S rfl rfl) ?_; clear S a; intro a S
        refine qt_y S rfl rfl rfl (fun w M => y_move S rfl) ?_; clear S a; intro a S
        refine qt_y S rfl rfl rfl (fun w M => y_fieldAddr (k := 0) S (by kernel_rfl) rfl) ?_; clear S a; intro a S
        refine qt_y S rfl rfl rfl (fun w M => y_load S (by kernel_rfl) rfl (M.cell 1 rfl rfl)) ?_; clear S a; intro a S
        refine qt_y S rfl rfl rfl (fun w M => y_fieldAddr (k := 1) S (by kernel_rfl) rfl) ?_; clear S a; intro a S
        refine qt_y S rfl rfl rfl (fun w M => y_load S (by kernel_rfl) rfl (M.cell 10 rfl rfl)) ?_; clear S a; intro a S
        refine qt_y S rfl rfl rfl (fun w M => y_int S rfl rfl rfl) ?_; clear S a; intro a S
        refine qt_y S rfl rfl rfl (fun w M => y_pickF S rfl rfl) ?_; clear S a; intro a S
        refine wpQuiet_nil ?_; clear M; intro w57 M
        replace S := S.sub [(1, _), (2, _), (5, _), (7, _), (8, _), (9, _), (10, _), (11, _), (12, _), (13, _), (15, _), (123, _), (209, _), (220, _), (19, _), (20, _), (255, _)] rfl
        refine then_normal ?_
        refine st_if (t := 255) S rfl ?_ ?_
        · clear S; intro h255 S
          refine st_condT S rfl ?_
          refine nxD ?_
          refine st_go [1] S rfl (by kernel_rfl) ?_; clear S a; intro a S
          refine nxC ?_
          refine wp_ret ?_
          refine then_ret ?_
          refine then_ret ?_
          refine block_ret ?_
          refine then_ret ?_
          refine then_ret ?_
          refine block_ret ?_
          refine then_ret ?_
          refine end_one S rfl (res_tmp rfl) ?_
          first
            | exact ⟨rfl, M.below⟩
            | (exfalso; omega)
        clear S; intro h255 S
        refine st_condF S rfl ?_
        refine wp_skip ?_
        refine then_normal ?_
        refine wp_regionK [9] #[false, false, false, false, false, false, false, false, false, false] rfl M (by kernel_rfl) ?_; clear M; intro w58 M
        refine k_pure (listed' := #[true, false, false, false, false, false, false, false, false, false]) 0 S rfl rfl rfl rfl (by kernel_rfl) rfl (fun _ d _ _ _ h => by cases d <;> exact h) (fun w => y_move S rfl) ?_; clear S a; intro a S
        refine k_read (listed' := #[true, true, false, false, false, false, false, false, false, false]) 1 S rfl rfl rfl rfl (by kernel_rfl) rfl (fun _ d _ _ _ h => by cases d <;> exact h) (fun w hW => have M := M.grow hW; y_loadAgg (cs := [_, _]) S (by kernel_rfl) rfl rfl (M.cellsAt (k := 2) 0 rfl rfl)) ?_; clear S a; intro a S
        refine k_pure (listed' := #[true, true, true, false, false, false, false, false, false, false]) 2 S rfl rfl rfl rfl (by kernel_rfl) rfl (fun _ d _ _ _ h => by cases d <;> exact h) (fun w => y_move S rfl) ?_; clear S a; intro a S
        refine k_read (listed' := #[true, true, true, true, false, false, false, false, false, false]) 3 S rfl rfl rfl rfl (by kernel_rfl) rfl (fun _ d _ _ _ h => by cases d <;> exact h) (fun w hW => have M := M.grow hW; y_loadAgg (cs := [_, _]) S (by kernel_rfl) rfl rfl (M.cellsAt (k := 2) 0 rfl rfl)) ?_; clear S a; intro a S
        refine k_read (listed' := #[true, true, true, true, true, false, false, false, false, false]) 4 S rfl rfl rfl rfl (by kernel_rfl) rfl (fun _ d _ _ _ h => by cases d <;> exact h) (fun w hW => have M := M.grow hW; y_lookupM (pos := 15) S M (key2) (hI.g2) (k := (o9.c, o9.nm.stamp)) Try.underlying33 (zero_i64) rfl rfl rfl) ?_; clear S a; intro a S
        refine k_pure (listed' := #[true, true, true, true, true, true, false, false, false, false]) 5 S rfl rfl rfl rfl (by kernel_rfl) rfl (fun _ d _ _ _ h => by cases d <;> exact h) (fun w => y_fieldAddr (k := 2) S (by kernel_rfl) rfl) ?_; clear S a; intro a S
        refine k_pure (listed' := #[true, true, true, true, true, true, true, false, false, false]) 6 S rfl rfl rfl rfl (by kernel_rfl) rfl (fun _ d _ _ _ h => by cases d <;> exact h) (fun w => y_fieldAddr (k := 2) S (by kernel_rfl) rfl) ?_; clear S a; intro a S
        refine k_read (listed' := #[true, true, true, true, true, true, true, true, false, false]) 7 S rfl rfl rfl rfl (by kernel_rfl) rfl (fun _ d _ _ _ h => by cases d <;> exact h) (fun w hW => have M := M.grow hW; y_load S (by kernel_rfl) rfl (M.cell 1 rfl rfl)) ?_; clear S a; intro a S
        simp only [Bool.false_eq_true, if_false, hv2 o9.c o9.nm.stamp] at S
        refine k_pure (listed' := #[true, true, true, true, true, true, true, true, true, false]) 8 S rfl rfl rfl rfl (by kernel_rfl) rfl (fun _ d _ _ _ h => by cases d <;> exact h) (fun w => y_max S rfl rfl) ?_; clear S a; intro a S
        refine k_one (listed' := #[true, true, true, true, true, true, true, true, true, true]) 9 rfl (by kernel_rfl) rfl ?_
        refine st_updateM (pos := 15) S M (key2) (hI.g2) (k := (o9.c, o9.nm.stamp)) Try.underlying33 rfl rfl rfl rfl rfl ?_; clear M; intro w59 M
        simp only [List.set_cons_zero, List.set_cons_succ] at M
        refine wpList_nil ?_; refine then_normal ?_; refine ⟨fun h => absurd h (by decide), ?_⟩
        refine k_end (by kernel_rfl) ?_
        refine then_normal ?_
        replace M := M.front 18 rfl
        simp only [List.eraseIdx_cons_succ, List.eraseIdx_cons_zero] at M
        replace M := M.front 18 rfl
        simp only [List.eraseIdx_cons_succ, List.eraseIdx_cons_zero] at M
        replace M := M.front 18 rfl
        simp only [List.eraseIdx_cons_succ, List.eraseIdx_cons_zero] at M
        replace M := M.front 18 rfl
        simp only [List.eraseIdx_cons_succ, List.eraseIdx_cons_zero] at M
        replace M := M.front 18 rfl
        simp only [List.eraseIdx_cons_succ, List.eraseIdx_cons_zero] at M
        replace M := M.front 18 rfl
        simp only [List.eraseIdx_cons_succ, List.eraseIdx_cons_zero] at M
        replace M := M.front 18 rfl
        simp only [List.eraseIdx_cons_succ, List.eraseIdx_cons_zero] at M
        replace M := M.front 18 rfl
        simp only [List.eraseIdx_cons_succ, List.eraseIdx_cons_zero] at M
        replace M := M.front 18 rfl
        simp only [List.eraseIdx_cons_succ, List.eraseIdx_cons_zero] at M
        replace M := M.front 18 rfl
        simp only [List.eraseIdx_cons_succ, List.eraseIdx_cons_zero] at M
        replace M := M.front 18 rfl
        simp only [List.eraseIdx_cons_succ, List.eraseIdx_cons_zero] at M
        replace M := M.front 18 rfl
        simp only [List.eraseIdx_cons_succ, List.eraseIdx_cons_zero] at M
        replace M := M.front 18 rfl
        simp only [List.eraseIdx_cons_succ, List.eraseIdx_cons_zero] at M
        replace M := M.front 18 rfl
        simp only [List.eraseIdx_cons_succ, List.eraseIdx_cons_zero] at M
        replace M := M.front 18 rfl
        simp only [List.eraseIdx_cons_succ, List.eraseIdx_cons_zero] at M
        replace M := M.front 18 rfl
        simp only [List.eraseIdx_cons_succ, List.eraseIdx_cons_zero] at M
        replace M := M.front 18 rfl
        simp only [List.eraseIdx_cons_succ, List.eraseIdx_cons_zero] at M
        replace M := M.pre 17
        first
          | exact ⟨_, _, _, hN2, hI.g2.put (o9.c, o9.nm.stamp) _, hI.v2.put o9.c o9.nm.stamp _, S.sub _ rfl, M⟩
          | (obtain ⟨-, hN2⟩ : s'.last = s.last ∧ NI s' (lastF s'.l g t'.mail) T := by
               rcases hnum.2 with h | ⟨st, tr, e1, e2, -⟩
               · exact h
               · have hlx : s'.l.length = s.l.length + 1 := by rw [e2]; simp
                 omega
             exact ⟨T, m2, c2, hN2, hI.g2, hI.v2, S.sub _ rfl, M⟩)
      clear S; intro h239 S
      refine qt_y S rfl rfl rfl (fun w M => y_fieldAddr (k := 2) S (by kernel_rfl) rfl) ?_; clear S a; intro a S
      refine qt_y S rfl rfl rfl (fun w M => y_fieldAddr (k := 2) S (by kernel_rfl) rfl) ?_; clear S a; intro a S
      refine qt_y S rfl rfl rfl (fun w M => y_load S (by kernel_rfl) rfl (M.cell 1 rfl rfl)) ?_; clear S a; intro a S
      refine qt_y S rfl rfl rfl (fun w M => y_move S rfl) ?_; clear S a; intro a S
      refine qt_y S rfl rfl rfl (fun w M => y_loadAgg (cs := [_, _]) S (by kernel_rfl) rfl rfl (M.cellsAt (k := 2) 0 rfl rfl)) ?_; clear S a; intro a S
      refine qt_y S rfl rfl rfl (fun w M => y_lookupM (pos := 15) S M (key2) (hI.g2) (k := (o9.c, o9.nm.stamp)) Try.underlying33 (zero_i64) rfl rfl rfl) ?_; clear S a; intro a S
      simp only [Bool.false_eq_true, if_false, hv2 o9.c o9.nm.stamp] at S
      (first | refine qt_y S rfl rfl rfl (fun w M => y_addN S rfl rfl (by omega)) ?_ | refine qt_y S rfl rfl rfl (fun w M => y_int S rfl rfl rfl) ?_); clear S a; intro a S
      refine qt_y S rfl rfl rfl (fun w M => y_int S rfl rfl rfl) ?_; clear S a; intro a S
      refine qt_y S rfl rfl rfl (fun w M => y_pickT S rfl rfl) ?_; clear S a; intro a S
      refine qt_y S rfl rfl rfl (fun w M => y_move S rfl) ?_; clear S a; intro a S
      refine st_if (t := 249) S rfl ?_ ?_
      · clear S; intro h249 S
        refine qt_skip 5 S rfl ?_; clear S a; intro a S
        refine qt_y S rfl rfl rfl (fun w M => y_pickT S rfl rfl) ?_; clear S a; intro a S
        refine wpQuiet_nil ?_; clear M; intro w53 M
        replace S := S.sub [(1, _), (2, _), (5, _), (7, _), (8, _), (9, _), (10, _), (11, _), (12, _), (13, _), (15, _), (123, _), (209, _), (220, _), (19, _), (20, _), (255, _)] rfl
        refine then_normal ?_
        refine st_condT S rfl ?_
        refine nxD ?_
        refine st_go [1] S rfl (by kernel_rfl) ?_; clear S a; intro a S
        refine nxC ?_
        refine wp_ret ?_
        refine then_ret ?_
        refine then_ret ?_
        refine block_ret ?_
        refine then_ret ?_
        refine then_ret ?_
        refine block_ret ?_
        refine then_ret ?_
        refine end_one S rfl (res_tmp rfl) ?_
        first
          | exact ⟨rfl, M.below⟩
          | (exfalso; omega)
      clear S; intro h249 S
      refine qt_y S rfl rfl rfl (fun w M => y_fieldAddr (k := 0) S (by kernel_rfl) rfl) ?_; clear S a; intro a S
      refine qt_y S rfl rfl rfl (fun w M => y_load S (by kernel_rfl) rfl (M.cell 1 rfl rfl)) ?_; clear S a; intro a S
      refine qt_y S rfl rfl rfl (fun w M => y_fieldAddr (k := 1) S (by kernel_rfl) rfl) ?_; clear S a; intro a S
      refine qt_y S rfl rfl rfl (fun w M => y_load S (by kernel_rfl) rfl (M.cell 10 rfl rfl)) ?_; clear S a; intro a S
      refine qt_y S rfl rfl rfl (fun w M => y_int S rfl rfl rfl) ?_; clear S a; intro a S
      refine qt_y S rfl rfl rfl (fun w M => y_pickF S rfl rfl) ?_; clear S a; intro a S
      refine wpQuiet_nil ?_; clear M; intro w54 M
      replace S := S.sub [(1, _), (2, _), (5, _), (7, _), (8, _), (9, _), (10, _), (11, _), (12, _), (13, _), (15, _), (123, _), (209, _), (220, _), (19, _), (20, _), (255, _)] rfl
      refine then_normal ?_
      refine st_if (t := 255) S rfl ?_ ?_
      · clear S; intro h255 S
        refine st_condT S rfl ?_
        refine nxD ?_
        refine st_go [1] S rfl (by kernel_rfl) ?_; clear S a; intro a S
        refine nxC ?_
        refine wp_ret ?_
        refine then_ret ?_
        refine then_ret ?_
        refine block_ret ?_
        refine then_ret ?_
        refine then_ret ?_
        refine block_ret ?_
        refine then_ret ?_
        refine end_one S rfl (res_tmp rfl) ?_
        first
          | exact ⟨rfl, M.below⟩
          | (exfalso; omega)
      clear S; intro h255 S
      refine st_condF S rfl ?_
      refine wp_skip ?_
      refine then_normal ?_
      refine wp_regionK [9] #[false, false, false, false, false, false, false, false, false, false] rfl M (by kernel_rfl) ?_; clear M; intro w55 M
      refine k_pure (listed' := #[true, false, false, false, false, false, false, false, false, false]) 0 S rfl rfl rfl rfl (by kernel_rfl) rfl (fun _ d _ _ _ h => by cases d <;> exact h) (fun w => y_move S rfl) ?_; clear S a; intro a S
      refine k_read (listed' := #[true, true, false, false, false, false, false, false, false, false]) 1 S rfl rfl rfl rfl (by kernel_rfl) rfl (fun _ d _ _ _ h => by cases d <;> exact h) (fun w hW => have M := M.grow hW; y_loadAgg (cs := [_, _]) S (by kernel_rfl) rfl rfl (M.cellsAt (k := 2) 0 rfl rfl)) ?_; clear S a; intro a S
      refine k_pure (listed' := #[true, true, true, false, false, false, false, false, false, false]) 2 S rfl rfl rfl rfl (by kernel_rfl) rfl (fun _ d _ _ _ h => by cases d <;> exact h) (fun w => y_move S rfl) ?_; clear S a; intro a S
      refine k_read (listed' := #[true, true, true, true, false, false, false, false, false, false]) 3 S rfl rfl rfl rfl (by kernel_rfl) rfl (fun _ d _ _ _ h => by cases d <;> exact h) (fun w hW => have M := M.grow hW; y_loadAgg (cs := [_, _]) S (by kernel_rfl) rfl rfl (M.cellsAt (k := 2) 0 rfl rfl)) ?_; clear S a; intro a S
      refine k_read (listed' := #[true, true, true, true, true, false, false, false, false, false]) 4 S rfl rfl rfl rfl (by kernel_rfl) rfl (fun _ d _ _ _ h => by cases d <;> exact h) (fun w hW => have M := M.grow hW; y_lookupM (pos := 15) S M (key2) (hI.g2) (k := (o9.c, o9.nm.stamp)) Try.underlying33 (zero_i64) rfl rfl rfl) ?_; clear S a; intro a S
      refine k_pure (listed' := #[true, true, true, true, true, true, false, false, false, false]) 5 S rfl rfl rfl rfl (by kernel_rfl) rfl (fun _ d _ _ _ h => by cases d <;> exact h) (fun w => y_fieldAddr (k := 2) S (by kernel_rfl) rfl) ?_; clear S a; intro a S
      refine k_pure (listed' := #[true, true, true, true, true, true, true, false, false, false]) 6 S rfl rfl rfl rfl (by kernel_rfl) rfl (fun _ d _ _ _ h => by cases d <;> exact h) (fun w => y_fieldAddr (k := 2) S (by kernel_rfl) rfl) ?_; clear S a; intro a S
      refine k_read (listed' := #[true, true, true, true, true, true, true, true, false, false]) 7 S rfl rfl rfl rfl (by kernel_rfl) rfl (fun _ d _ _ _ h => by cases d <;> exact h) (fun w hW => have M := M.grow hW; y_load S (by kernel_rfl) rfl (M.cell 1 rfl rfl)) ?_; clear S a; intro a S
      simp only [Bool.false_eq_true, if_false, hv2 o9.c o9.nm.stamp] at S
      refine k_pure (listed' := #[true, true, true, true, true, true, true, true, true, false]) 8 S rfl rfl rfl rfl (by kernel_rfl) rfl (fun _ d _ _ _ h => by cases d <;> exact h) (fun w => y_max S rfl rfl) ?_; clear S a; intro a S
      refine k_one (listed' := #[true, true, true, true, true, true, true, true, true, true]) 9 rfl (by kernel_rfl) rfl ?_
      refine st_updateM (pos := 15) S M (key2) (hI.g2) (k := (o9.c, o9.nm.stamp)) Try.underlying33 rfl rfl rfl rfl rfl ?_; clear M; intro w56 M
      simp only [List.set_cons_zero, List.set_cons_succ] at M
      refine wpList_nil ?_; refine then_normal ?_; refine ⟨fun h => absurd h (by decide), ?_⟩
      refine k_end (by kernel_rfl) ?_
      refine then_normal ?_
      replace M := M.front 18 rfl
      simp only [List.eraseIdx_cons_succ, List.eraseIdx_cons_zero] at M
      replace M := M.front 18 rfl
      simp only [List.eraseIdx_cons_succ, List.eraseIdx_cons_zero] at M
      replace M := M.front 18 rfl
      simp only [List.eraseIdx_cons_succ, List.eraseIdx_cons_zero] at M
      replace M := M.front 18 rfl
      simp only [List.eraseIdx_cons_succ, List.eraseIdx_cons_zero] at M
      replace M := M.front 18 rfl
      simp only [List.eraseIdx_cons_succ, List.eraseIdx_cons_zero] at M
      replace M := M.front 18 rfl
      simp only [List.eraseIdx_cons_succ, List.eraseIdx_cons_zero] at M
      replace M := M.front 18 rfl
      simp only [List.eraseIdx_cons_succ, List.eraseIdx_cons_zero] at M
      replace M := M.front 18 rfl
      simp only [List.eraseIdx_cons_succ, List.eraseIdx_cons_zero] at M
      replace M := M.front 18 rfl
      simp only [List.eraseIdx_cons_succ, List.eraseIdx_cons_zero] at M
      replace M := M.front 18 rfl
      simp only [List.eraseIdx_cons_succ, List.eraseIdx_cons_zero] at M
      replace M := M.front 18 rfl
      simp only [List.eraseIdx_cons_succ, List.eraseIdx_cons_zero] at M
      replace M := M.front 18 rfl
      simp only [List.eraseIdx_cons_succ, List.eraseIdx_cons_zero] at M
      replace M := M.front 18 rfl
      simp only [List.eraseIdx_cons_succ, List.eraseIdx_cons_zero] at M
      replace M := M.front 18 rfl
      simp only [List.eraseIdx_cons_succ, List.eraseIdx_cons_zero] at M
      replace M := M.front 18 rfl
      simp only [List.eraseIdx_cons_succ, List.eraseIdx_cons_zero] at M
      replace M := M.front 18 rfl
      simp only [List.eraseIdx_cons_succ, List.eraseIdx_cons_zero] at M
      replace M := M.front 18 rfl
      simp only [List.eraseIdx_cons_succ, List.eraseIdx_cons_zero] at M
      replace M := M.pre 17
      first
        | exact ⟨_, _, _, hN2, hI.g2.put (o9.c, o9.nm.stamp) _, hI.v2.put o9.c o9.nm.stamp _, S.sub _ rfl, M⟩
        | (obtain ⟨-, hN2⟩ : s'.last = s.last ∧ NI s' (lastF s'.l g t'.mail) T := by
             rcases hnum.2 with h | ⟨st, tr, e1, e2, -⟩
             · exact h
             · have hlx : s'.l.length = s.l.length + 1 := by rw [e2]; simp
               omega
           exact ⟨T, m2, c2, hN2, hI.g2, hI.v2, S.sub _ rfl, M⟩)
    clear S a M; intro a wc
    rintro ⟨T2, m4, c4, hN2, hg4, hv4, S, M⟩
    refine wp_region_lit ?_
    refine st_y S rfl rfl rfl (y_loadAgg (cs := [_, _, _, _]) S (by kernel_rfl) rfl rfl (M.cellsAt (k := 4) 8 rfl rfl)) ?_; clear S a; intro a S
    skip
    refine st_store (sz := 4) (us := [_, _, _, _]) S M 15 rfl (by kernel_rfl) rfl rfl rfl rfl rfl rfl (by first | decide | (simp; done) | (simp; omega)) ?_; clear M; intro w60 M
    simp only [putL, List.set_cons_zero, List.set_cons_succ, Nat.reduceAdd] at M
    refine wpList_nil ?_
    refine block_normal ?_
    refine then_normal ?_
    replace M := M.front 16 rfl
    simp only [List.eraseIdx_cons_succ, List.eraseIdx_cons_zero] at M
    replace M := M.front 16 rfl
    simp only [List.eraseIdx_cons_succ, List.eraseIdx_cons_zero] at M
    replace M := M.front 16 rfl
    simp only [List.eraseIdx_cons_succ, List.eraseIdx_cons_zero] at M
    replace M := M.front 16 rfl
    simp only [List.eraseIdx_cons_succ, List.eraseIdx_cons_zero] at M
    replace M := M.front 16 rfl
    simp only [List.eraseIdx_cons_succ, List.eraseIdx_cons_zero] at M
    replace M := M.front 6 rfl
    simp only [List.eraseIdx_cons_succ, List.eraseIdx_cons_zero] at M
    replace M := M.front 6 rfl
    simp only [List.eraseIdx_cons_succ, List.eraseIdx_cons_zero] at M
    replace M := M.pre 7
    first
      | exact ⟨s, rl, ro, of, g, T, u2, m1, c1, m2, c2, mU2, cU2, hI.keep hup hgU hvU, S.sub _ rfl, M⟩
      | exact ⟨s, rl, ro, q.of, g, T, u2, m1, c1, m2, c2, mU2, cU2, hI.keep hup hgU hvU, S.sub _ rfl, M⟩
      | exact ⟨s', rl', ro', of, _, T2, u2, m3, c3, m4, c4, mU2, cU2, hI.next hX he hN2 hg3 hv3 hg4 hv4, S.sub _ rfl, M⟩
  clear S a M; intro a wc
  rintro ⟨s2, rl2, ro2, of2, g2, T2, u2, m3, c3, m4, c4, mU2, cU2, hI2, S, M⟩
  refine wp_region_lit ?_
  refine st_go [1] S rfl (by kernel_rfl) ?_; clear S a; intro a S
  (first | refine st_y S rfl rfl rfl (y_addN S rfl rfl (by omega)) ?_ | refine st_y S rfl rfl rfl (y_int S rfl rfl rfl) ?_); clear S a; intro a S
  refine st_go [1] S rfl (by kernel_rfl) ?_; clear S a; intro a S
  refine nxC ?_
  exact ⟨l.length - (k + 1), by omega, k + 1, s2, rl2, ro2, of2, g2, T2, u2, m3, c3, m4, c4, mU2, cU2, by omega, rfl, hI2, S.sub _ rfl, M⟩
end Go.Proofs.Ytniijiipkfhjgaa

namespace Go.Proofs.Ytniijiipkfhjgaa
open Go.ChangeShapes Go.WideShapes Go.ChangeAt Go.RowKit Go.Joins
theorem Try.own : ownKnob Try.prog.godebug = none := by kernel_rfl
theorem Try.laidOut : laidOutB Try.prog = true := by kernel_rfl
section
variable {H : Type} {enc : TypeId × Value → H} {P : Program}
/-- arguments read as they read, through the same places, where what lay lies as it lay -/
theorem trodAll_stays (hl : laidOutB P = true) {W W' : World} (hb : Below W.heap.size W W') {sp : Nat → Bool} : ∀ (ts : List TypeId) (vs : List Value) (ds : List (DataW H)) (ps : List MemPlace),
    (∀ t ∈ ts, P.readableRec t = true ∧ t < P.types.size) → (∀ p ∈ ps, p.block < W.heap.size ∧ sp p.block = true) →
    DataW.TrodAll enc P W 0 (fun _ => true) true ts vs ds ps → DataW.TrodAll enc P W' 0 sp true ts vs ds ps
  | [], vs, ds, ps, _, _, h => by
    obtain ⟨rfl, rfl, rfl⟩ := trodAll_nil h
    exact trodAll_mk0
  | t :: ts, vs, ds, ps, ht, hp, h => by
    obtain ⟨v, vs', d, ds', p, q, rfl, rfl, rfl, h0, h1⟩ := trodAll_cons h
    exact trodAll_cons_mk (WideElems.Trod_stays hl (ht t (by simp)).1 (ht t (by simp)).2 h0 (fun x hx => hb.same (hp x (by simp [hx])).1) (fun x hx => (hp x (by simp [hx])).2))
      (trodAll_stays hl hb ts vs' ds' q (fun t' h' => ht t' (by simp [h'])) (fun x hx => hp x (by simp [hx])) h1)
/-- A LAW's conclusion: true came back, nothing that lay has turned, the specification says 'true, the arguments as they were' -/
theorem law_post {f : Func} {s : ChangeSpec} {apart fresh handsOn again : Bool} {W W' : World} {args : Array Value} {ds gs : List (DataW H)} {before : List MemPlace} {tb : TypeId}
    (hl : laidOutB P = true) (hts : ∀ t ∈ f.params.toList, P.readableRec t = true ∧ t < P.types.size) (hv : s.vars = []) (hrt : f.resultTypes = #[tb]) (htb : P.underlying tb = some .bool)
    (hs : ∀ ds : List (DataW H), ds.length = f.params.size → s.fn H ds = { results := [.lit (.bool true)], args := ds })
    (hW : DataW.Whole enc P f.params.toList s.vars apart W args.toList ds gs before) (hb : Below W.heap.size W W') : s.post enc P f apart fresh handsOn again W args (.bool true) W' := by
  have hlt : ∀ p ∈ before, p.block < W.heap.size := fun p hp => hW.lt p hp
  have hW' := hW
  obtain ⟨p, q, hA, hV, rfl, hfz, hnd⟩ := hW
  rw [hv] at hV
  obtain ⟨rfl, rfl⟩ := trodVars_none hV
  have hlen : ds.length = f.params.size := by
    have : ∀ (ts : List TypeId) (vs : List Value) (ds : List (DataW H)) (ps : List MemPlace), DataW.TrodAll enc P W 0 (fun _ => true) true ts vs ds ps → ds.length = ts.length := by
      intro ts
      induction ts with
      | nil => intro vs ds ps h; obtain ⟨_, rfl, _⟩ := trodAll_nil h; rfl
      | cons t ts ih => intro vs ds ps h; obtain ⟨v, vs', d, ds', p, q, _, rfl, _, _, h1⟩ := trodAll_cons h; simp [ih _ _ _ h1]
    simpa using this _ _ _ _ hA
  have e := hs ds hlen
  have args_read : ∀ sp : Nat → Bool, (∀ x ∈ p ++ [], sp x.block = true) → DataW.TrodAll enc P W' 0 sp true f.params.toList args.toList ds p := fun sp hsp =>
    trodAll_stays hl hb _ _ _ _ hts (fun x hx => ⟨hlt x (by simp [hx]), hsp x (by simp [hx])⟩) hA
  have res_read : ∀ (b : Nat) (sp : Nat → Bool) (hd : Bool), DataW.TrodAll enc P W' b sp hd f.resultTypes.toList (Value.resultList f.resultTypes.size (.bool true)) [.lit (.bool true)] [] := fun b sp hd => by
    rw [hrt]; exact trodAll_mk1 (shut_bool htb _)
  have no_vars : ∀ sp : Nat → Bool, DataW.TrodVars enc P W' sp s.vars ([] : List (DataW H)) [] := fun sp => by rw [hv]; rfl
  have hold : ∀ x ∈ p ++ [], (fun b => decide (b < W.heap.size)) x.block = true := fun x hx => by simpa using hlt x hx
  have e' : s.fn H (ds ++ []) = { results := [.lit (.bool true)], args := ds } := by rw [List.append_nil]; exact e
  refine ⟨ds, [], p ++ [], [], p, [], hW', ?_, ?_, ?_, World.keptBut_mono (fun x hx => ⟨hx, ?_⟩) (hb.frame (· ∈ p ++ [])), fun _ => ?_⟩
  · rw [e']; exact res_read _ _ _
  · rw [e']; exact args_read _ hold
  · rw [e']; exact no_vars _
  · exact Or.inr (by simpa using hx)
  · refine ⟨ok_one hrt rfl (okWide_bool_mk htb _), _, _, ([] ++ p) ++ [], ⟨[] ++ p, [], trodAll_append (args_read _ (fun _ _ => rfl)) (res_read _ _ _), no_vars _, rfl, fun b off hx => ?_, fun ha => by simpa using hnd ha⟩, fun x hx _ => by simpa using hx⟩
    have hin : MemPlace.cell b off ∈ p ++ [] := by simpa using hx
    rw [hb.frozen (hlt _ hin)]
    exact hfz b off hin
end
end Go.Proofs.Ytniijiipkfhjgaa
namespace Go.Proofs.Ytniijiipkfhjgaa
open Go.ChangeShapes Go.WideShapes Go.ChangeAt Go.RowKit Go.Joins
section
variable {H : Type} {enc : TypeId × Value → H} {P : Program} {W : World} {base : Nat} {t : TypeId} {v : Value} {d : DataW H} {ps : List MemPlace}
theorem cells_one {x : Value} (h : v.cells.toList = [x]) (hna : ∀ cs, v ≠ .agg cs) : v = x := by
  cases v <;> first | exact absurd rfl (hna _) | (simp [Value.cells] at h; exact h)
end
end Go.Proofs.Ytniijiipkfhjgaa
namespace Go.Proofs.Ytniijiipkfhjgaa
open Go.ChangeShapes Go.WideShapes Go.ChangeAt Go.RowKit Go.Joins
section
variable {H : Type} {enc : TypeId × Value → H} {P : Program} {W : World} {base : Nat} {t : TypeId} {v : Value} {d : DataW H} {ps : List MemPlace}
end
end Go.Proofs.Ytniijiipkfhjgaa
namespace Go.Proofs.Ytniijiipkfhjgaa
open Go.ChangeShapes Go.WideShapes Go.ChangeAt Go.RowKit Go.Joins
section
variable {H : Type} {enc : TypeId × Value → H} {P : Program} {W : World} {t : TypeId} {cs : List Value}
/-- these cells read as data of the type t -/
def Rdt (enc : TypeId × Value → H) (P : Program) (W : World) (t : TypeId) (cs : List Value) : Prop := ∃ n x, DataW.trod enc P W 0 (fun _ => true) true n t cs = some x
theorem Rdt.int {k : IntKind} (h : Rdt enc P W t cs) (ht : P.underlying t = some (.int k)) : ∃ z, cs = [.int k z] ∧ k.min ≤ z ∧ z ≤ k.max := by
  obtain ⟨n, x, h⟩ := h
  obtain ⟨z, e, -, hw⟩ := DataW.trod_int ht h
  simp only [Lit.wf, Bool.and_eq_true, decide_eq_true_eq] at hw
  exact ⟨z, e, hw⟩
theorem Rdt.i64 (h : Rdt enc P W t cs) (ht : P.underlying t = some (.int .i64)) : ∃ z, cs = [.int .i64 z] ∧ -9223372036854775808 ≤ z ∧ z ≤ 9223372036854775807 := by
  obtain ⟨z, e, h1, h2⟩ := h.int ht
  have e1 : IntKind.i64.min = -9223372036854775808 := rfl
  have e2 : IntKind.i64.max = 9223372036854775807 := rfl
  exact ⟨z, e, by omega, by omega⟩
theorem Rdt.u8 (h : Rdt enc P W t cs) (ht : P.underlying t = some (.int .u8)) : ∃ b : UInt8, cs = [.int .u8 (b.toNat : Int)] := by
  obtain ⟨z, e, h1, h2⟩ := h.int ht
  have e1 : IntKind.u8.min = 0 := rfl
  have e2 : IntKind.u8.max = 255 := rfl
  refine ⟨UInt8.ofNat z.toNat, ?_⟩
  rw [e]; simp; omega
theorem Rdt.bool (h : Rdt enc P W t cs) (ht : P.underlying t = some .bool) : ∃ b, cs = [.bool b] := by
  obtain ⟨n, x, h⟩ := h
  obtain ⟨b, e, -⟩ := DataW.trod_bool ht h
  exact ⟨b, e⟩
theorem Rdt.len_struct {fs : Array Field} (h : Rdt enc P W t cs) (ht : P.underlying t = some (.struct fs)) : cs.length = P.cellsOf t := by
  obtain ⟨n, x, h⟩ := h
  obtain ⟨xs, m, -, -, hl, -, -⟩ := DataW.trod_struct ht h
  exact hl
theorem Rdt.field {fs : Array Field} (h : Rdt enc P W t cs) (ht : P.underlying t = some (.struct fs)) (i : Nat) {f : Field} (hf : fs[i]? = some f) {k : Nat} (hk : P.cellsOf f.type = k) : Rdt enc P W f.type ((cs.drop f.offset).take k) := by
  obtain ⟨n, x, h⟩ := h
  obtain ⟨xs, m, -, -, hl, hlen, hx⟩ := DataW.trod_struct ht h
  have hlt : i < xs.length := by rw [hlen]; exact (Array.getElem?_eq_some_iff.1 hf).1
  subst hk
  exact ⟨m, xs[i], by rw [← List.getElem?_eq_getElem hlt]; exact hx i f hf⟩
theorem Rdt.len_array {m : Nat} {e : TypeId} (h : Rdt enc P W t cs) (ht : P.underlying t = some (.array m e)) : cs.length = P.cellsOf t := by
  obtain ⟨n, x, h⟩ := h
  obtain ⟨xs, m, -, -, hl, -, -⟩ := DataW.trod_array ht h
  exact hl
theorem Rdt.elem {m : Nat} {e : TypeId} (h : Rdt enc P W t cs) (ht : P.underlying t = some (.array m e)) {k : Nat} (hk : P.cellsOf e = k) (i : Nat) (hi : i < m) : Rdt enc P W e ((cs.drop (i * k)).take k) := by
  obtain ⟨n, x, h⟩ := h
  obtain ⟨xs, q, -, -, hl, hlen, hx⟩ := DataW.trod_array ht h
  have hlt : i < xs.length := by rw [hlen]; exact hi
  subst hk
  exact ⟨q, xs[i], by rw [← List.getElem?_eq_getElem hlt]; exact hx i hi⟩
theorem list_of {α : Type} {Q : Nat → α → Prop} : ∀ (n : Nat), (∀ i, i < n → ∃ a, Q i a) → ∃ xs : List α, xs.length = n ∧ ∀ i a, xs[i]? = some a → Q i a
  | 0, _ => ⟨[], rfl, fun i a h => by simp at h⟩
  | n + 1, h => by
    obtain ⟨xs, hl, hx⟩ := list_of n (fun i hi => h i (by omega))
    obtain ⟨a, ha⟩ := h n (by omega)
    refine ⟨xs ++ [a], by simp [hl], fun i b hb => ?_⟩
    rcases Nat.lt_or_ge i n with hi | hi
    · rw [List.getElem?_append_left (by omega)] at hb; exact hx i b hb
    · rw [List.getElem?_append_right (by omega)] at hb
      have : i - xs.length = 0 := by
        rcases Nat.eq_zero_or_pos (i - xs.length) with h0 | h0
        · exact h0
        · rw [List.getElem?_eq_none (by simp; omega)] at hb; cases hb
      rw [this] at hb
      obtain rfl : a = b := by simpa using hb
      obtain rfl : i = n := by omega
      exact ha
theorem addr_add2 (ad : Addr) (m j : Nat) : (ad.add m).add j = ad.add (m + j) := by
  unfold Addr.add
  by_cases h1 : m = 0
  · subst h1; simp
  · by_cases h2 : j = 0
    · subst h2; simp
    · simp [h1, h2, Nat.add_assoc]
theorem flat_get {sz : Nat} : ∀ (l : List (List Value)) (i j : Nat) (r : List Value), (∀ r ∈ l, r.length = sz) → l[i]? = some r → j < sz → l.flatten[i * sz + j]? = r[j]?
  | [], i, j, r, _, h, _ => by simp at h
  | x :: l, 0, j, r, hl, h, hj => by
    obtain rfl : x = r := by simpa using h
    have := hl x (by simp)
    rw [Nat.zero_mul, Nat.zero_add, List.flatten_cons, List.getElem?_append_left (by omega)]
  | x :: l, i + 1, j, r, hl, h, hj => by
    have hx := hl x (by simp)
    have := flat_get l i j r (fun q hq => hl q (by simp [hq])) (by simpa using h) hj
    rw [List.flatten_cons, List.getElem?_append_right (by rw [hx, Nat.succ_mul]; omega), ← this, hx]
    congr 1; rw [Nat.succ_mul]; omega
theorem flat_len {sz : Nat} : ∀ (l : List (List Value)), (∀ r ∈ l, r.length = sz) → l.flatten.length = l.length * sz
  | [], _ => by simp
  | x :: l, hl => by rw [List.flatten_cons, List.length_append, flat_len l (fun q hq => hl q (by simp [hq])), hl x (by simp), List.length_cons, Nat.succ_mul]; omega
/-- a slice of any elements: it reads as rows, each of which is some element -/
theorem Rdt.rows {α : Type} {Φ : α → List Value → Prop} {e sz : Nat} (h : Rdt enc P W t cs) (ht : P.underlying t = some (.slice e)) (hc : P.cellsOf e = sz) (hsz : 0 < sz) (hl : ∀ a cs, Φ a cs → cs.length = sz) (he : ∀ cs, Rdt enc P W e cs → ∃ a, Φ a cs) :
    ∃ u css, ∃ xs : List α, cs = [u] ∧ Rd 0 W.heap.size W sz u xs.length css ∧ ∀ i a, xs[i]? = some a → Φ a ((css.drop (i * sz)).take sz) := by
  obtain ⟨n, x, h⟩ := h
  rcases DataW.trod_slice ht h with ⟨rfl, -⟩ | ⟨ad, len, cap, elems, rest, m, -, rfl, -, -, hlc, hcm, hlen, hel, -, -⟩
  · exact ⟨_, [], [], rfl, Rd.nil _ _ _ _, fun i a h => by simp at h⟩
  · have each : ∀ i, i < len → ∃ q : α × List Value, W.cells? 0 (ad.add (i * sz)) sz = some q.2 ∧ Φ q.1 q.2 := fun i hi => by
      have h1 := hel i hi
      rw [hc, List.getElem?_eq_getElem (by omega)] at h1
      obtain ⟨r, h2, h3⟩ := Option.bind_eq_some_iff.1 h1
      obtain ⟨a, ha⟩ := he r ⟨m, _, h3⟩
      exact ⟨(a, r), h2, ha⟩
    obtain ⟨qs, hql, hq⟩ := list_of len each
    have hrl : ∀ r ∈ qs.map (·.2), r.length = sz := fun r hr => by
      obtain ⟨q, hq1, rfl⟩ := List.mem_map.1 hr
      obtain ⟨i, hi⟩ := List.getElem?_of_mem hq1
      exact hl _ _ (hq i q hi).2
    have hcell : ∀ i j (r : List Value), (qs.map (·.2))[i]? = some r → j < sz → W.cell? (ad.add (i * sz + j)) = r[j]? := fun i j r hr hj => by
      rw [List.getElem?_map, Option.map_eq_some_iff] at hr
      obtain ⟨q, hq1, rfl⟩ := hr
      obtain ⟨-, h2, h3⟩ := World.cells?_some (hq i q hq1).1
      have := h3 j hj
      rw [← this, addr_add2]
    have hfl := flat_len (qs.map (·.2)) hrl
    rw [List.length_map, hql] at hfl
    have hsp : 0 < len → ad.spot = none ∧ ad.block < W.heap.size := fun h0 => by
      obtain ⟨q, hq0⟩ : ∃ q, qs[0]? = some q := ⟨_, List.getElem?_eq_getElem (by omega)⟩
      have hr0 : (qs.map (·.2))[0]? = some q.2 := by simp [hq0]
      have h1 := hcell 0 0 q.2 hr0 hsz
      have hq2 := hrl q.2 (List.mem_of_getElem? hr0)
      rw [Nat.zero_mul, Nat.add_zero, show ad.add 0 = ad from rfl, List.getElem?_eq_getElem (by omega)] at h1
      refine ⟨?_, block_lt_of_cell h1⟩
      unfold World.cell? at h1
      split at h1
      · split at h1
        · cases h1
        · rename_i hs; simpa using hs
      · cases h1
    refine ⟨_, (qs.map (·.2)).flatten, qs.map (·.1), rfl, ?_, fun i a ha => ?_⟩
    · rw [List.length_map, hql]
      refine ⟨hfl, by omega, .inr ⟨ad, cap, rfl, hlc, hcm, fun j hj => ?_, fun h0 => ⟨(hsp h0).1, Nat.zero_le _, (hsp h0).2⟩⟩⟩
      rw [hfl] at hj
      have hlen0 : 0 < len := by rcases Nat.eq_zero_or_pos len with h | h; · rw [h] at hj; simp at hj
                                 · exact h
      have hi : j / sz < len := Nat.div_lt_of_lt_mul (by rw [Nat.mul_comm]; exact hj)
      have hm := Nat.mod_lt j hsz
      have ej : j = j / sz * sz + j % sz := by rw [Nat.mul_comm]; exact (Nat.div_add_mod j sz).symm
      obtain ⟨q, hq1⟩ : ∃ q, qs[j / sz]? = some q := ⟨_, List.getElem?_eq_getElem (by omega)⟩
      have hr1 : (qs.map (·.2))[j / sz]? = some q.2 := by simp [hq1]
      have h1 := hcell (j / sz) (j % sz) q.2 hr1 hm
      have h2 := flat_get _ (j / sz) (j % sz) q.2 hrl hr1 hm
      rw [← ej] at h1 h2
      rw [h2, ← h1]
      obtain ⟨b, o, sp⟩ := ad
      have : sp = none := (hsp hlen0).1
      subst this
      rw [addr_add]
    · rw [List.getElem?_map, Option.map_eq_some_iff] at ha
      obtain ⟨q, hq1, rfl⟩ := ha
      have hr1 : (qs.map (·.2))[i]? = some q.2 := by simp [hq1]
      have hq2 := hrl q.2 (List.mem_of_getElem? hr1)
      have : ((qs.map (·.2)).flatten.drop (i * sz)).take sz = q.2 := by
        apply List.ext_getElem?
        intro j
        rcases Nat.lt_or_ge j sz with hj | hj
        · rw [List.getElem?_take_of_lt hj, List.getElem?_drop, flat_get _ i j q.2 hrl hr1 hj]
        · rw [List.getElem?_eq_none (by simp; omega), List.getElem?_eq_none (by omega)]
      rw [this]
      exact (hq i q hq1).2
theorem rows_flat {α : Type} {f : α → List Value} {sz : Nat} : ∀ (xs : List α) (css : List Value), css.length = xs.length * sz → (∀ a, (f a).length = sz) → (∀ i a, xs[i]? = some a → (css.drop (i * sz)).take sz = f a) → css = xs.flatMap f
  | [], css, hl, _, _ => by simpa using List.eq_nil_of_length_eq_zero (by simpa using hl)
  | x :: xs, css, hl, hf, h => by
    have h0 := h 0 x rfl
    rw [Nat.zero_mul, List.drop_zero] at h0
    have hr := rows_flat xs (css.drop sz) (by rw [List.length_drop, hl, List.length_cons, Nat.succ_mul]; omega) hf (fun i a hi => by
      have := h (i + 1) a (by simpa using hi)
      rw [List.drop_drop, ← this]; congr 2; rw [Nat.succ_mul]; omega)
    rw [List.flatMap_cons, ← h0, ← hr, List.take_append_drop]
/-- the same, where an element's cells are its own -/
theorem Rdt.flat {α : Type} {f : α → List Value} {e sz : Nat} (h : Rdt enc P W t cs) (ht : P.underlying t = some (.slice e)) (hc : P.cellsOf e = sz) (hsz : 0 < sz) (hl : ∀ a, (f a).length = sz) (he : ∀ cs, Rdt enc P W e cs → ∃ a, cs = f a) :
    ∃ u, ∃ xs : List α, cs = [u] ∧ Rd 0 W.heap.size W sz u xs.length (xs.flatMap f) := by
  obtain ⟨u, css, xs, rfl, hR, hx⟩ := h.rows (Φ := fun a cs => cs = f a) ht hc hsz (fun a cs h => by rw [h]; exact hl a) he
  rw [rows_flat xs css hR.1 hl hx] at hR
  exact ⟨u, xs, rfl, hR⟩
/-- an argument of a slice's type -/
theorem rdt_slice {e : TypeId} {base : Nat} {v : Value} {d : DataW H} {ps : List MemPlace} (ht : P.underlying t = some (.slice e)) (hv : Value.okWide P W .any base t v) (h : DataW.Trod enc P W 0 (fun _ => true) true t v d ps) : ∃ cs : List Value, Rdt enc P W t cs ∧ ∀ u, cs = [u] → v = u := by
  obtain ⟨fuel, h⟩ := h
  refine ⟨_, ⟨fuel, _, h⟩, fun u hu => ?_⟩
  unfold Value.okWide at hv
  simp only [ht] at hv
  have hv' : Cell.okWide P W .any base t v := hv
  have hna : ∀ cs, v ≠ .agg cs := fun cs hc => by subst hc; simp [Cell.okWide, Cell.ok, ht] at hv'
  exact cells_one hu hna
end
end Go.Proofs.Ytniijiipkfhjgaa

namespace Go.Proofs.Ytniijiipkfhjgaa
open Go.ChangeShapes Go.WideShapes Go.ChangeAt Go.RowKit Go.Joins
section
variable {H : Type} {enc : TypeId × Value → H} {W : World} {cs : List Value}
theorem rdt_nm (h : Rdt enc Try.prog W 40 cs) : ∃ n : Nm, cs = n.cells.toList := by
  have hl := h.len_struct Try.underlying40
  rw [show Try.prog.cellsOf 40 = 3 by kernel_rfl] at hl
  match cs, hl with
  | [c0, c1, c2], _ =>
    have k1 : Try.prog.cellsOf 3 = 1 := by kernel_rfl
    obtain ⟨z0, e0, -⟩ := (show Rdt enc Try.prog W 3 [c0] from h.field Try.underlying40 0 rfl k1).i64 Try.underlying3
    obtain ⟨z1, e1, -⟩ := (show Rdt enc Try.prog W 3 [c1] from h.field Try.underlying40 1 rfl k1).i64 Try.underlying3
    obtain ⟨z2, e2, -⟩ := (show Rdt enc Try.prog W 3 [c2] from h.field Try.underlying40 2 rfl k1).i64 Try.underlying3
    cases e0; cases e1; cases e2
    exact ⟨⟨z0, z1, z2⟩, rfl⟩
theorem rdt_v8 (h : Rdt enc Try.prog W 42 cs) : ∃ v : V8, cs = v.cellsL := by
  have hl := h.len_array Try.underlying42
  rw [show Try.prog.cellsOf 42 = 8 by kernel_rfl] at hl
  match cs, hl with
  | [c0, c1, c2, c3, c4, c5, c6, c7], _ =>
    have k1 : Try.prog.cellsOf 5 = 1 := by kernel_rfl
    obtain ⟨z0, e0⟩ := (show Rdt enc Try.prog W 5 [c0] from h.elem Try.underlying42 k1 0 (by omega)).u8 Try.underlying5
    obtain ⟨z1, e1⟩ := (show Rdt enc Try.prog W 5 [c1] from h.elem Try.underlying42 k1 1 (by omega)).u8 Try.underlying5
    obtain ⟨z2, e2⟩ := (show Rdt enc Try.prog W 5 [c2] from h.elem Try.underlying42 k1 2 (by omega)).u8 Try.underlying5
    obtain ⟨z3, e3⟩ := (show Rdt enc Try.prog W 5 [c3] from h.elem Try.underlying42 k1 3 (by omega)).u8 Try.underlying5
    obtain ⟨z4, e4⟩ := (show Rdt enc Try.prog W 5 [c4] from h.elem Try.underlying42 k1 4 (by omega)).u8 Try.underlying5
    obtain ⟨z5, e5⟩ := (show Rdt enc Try.prog W 5 [c5] from h.elem Try.underlying42 k1 5 (by omega)).u8 Try.underlying5
    obtain ⟨z6, e6⟩ := (show Rdt enc Try.prog W 5 [c6] from h.elem Try.underlying42 k1 6 (by omega)).u8 Try.underlying5
    obtain ⟨z7, e7⟩ := (show Rdt enc Try.prog W 5 [c7] from h.elem Try.underlying42 k1 7 (by omega)).u8 Try.underlying5
    cases e0; cases e1; cases e2; cases e3; cases e4; cases e5; cases e6; cases e7
    exact ⟨⟨z0, z1, z2, z3, z4, z5, z6, z7⟩, rfl⟩
theorem rdt_wr (h : Rdt enc Try.prog W 122 cs) : ∃ x : Wr, cs = x.cellsL := by
  have hl := h.len_struct Try.underlying122
  rw [show Try.prog.cellsOf 122 = 9 by kernel_rfl] at hl
  match cs, hl with
  | [c0, c1, c2, c3, c4, c5, c6, c7, c8], _ =>
    obtain ⟨z0, e0, -⟩ := (show Rdt enc Try.prog W 3 [c0] from h.field Try.underlying122 0 rfl (k := 1) (by kernel_rfl)).i64 Try.underlying3
    obtain ⟨v, e1⟩ := rdt_v8 (show Rdt enc Try.prog W 42 [c1, c2, c3, c4, c5, c6, c7, c8] from h.field Try.underlying122 1 rfl (k := 8) (by kernel_rfl))
    cases e0
    exact ⟨⟨z0, v⟩, by rw [e1]⟩
theorem rdt_ws {t : TypeId} (h : Rdt enc Try.prog W t cs) (ht : Try.prog.underlying t = some (.slice 122)) : ∃ u x, cs = [u] ∧ Ws 0 W.heap.size W u x :=
  h.flat (f := Wr.cellsL) ht (by kernel_rfl) (by omega) (fun _ => rfl) (fun _ h => rdt_wr h)
end
end Go.Proofs.Ytniijiipkfhjgaa

namespace Go.Proofs.Ytniijiipkfhjgaa
open Go.RowKit Go.Sort
/-- the slice v reads as these messages, each with its writes -/
def MsC (cs : List Value) (lo hi : Nat) (w : World) (v : Value) (ms : List (Msg × List Wr)) : Prop :=
  Rd lo hi w 24 v ms.length cs ∧ ∀ (i : Nat) (q : Msg × List Wr), ms[i]? = some q → ∃ lv, (cs.drop (i * 24)).take 24 = (q.1.cells lv).toList ∧ Ws lo hi w lv q.2
theorem MsC.same {cs : List Value} {lo hi : Nat} {w w' : World} {v : Value} {ms : List (Msg × List Wr)} (h : MsC cs lo hi w v ms) (hs : SameOn lo hi w w') : MsC cs lo hi w' v ms :=
  ⟨h.1.same hs, fun i q hi => let ⟨lv, e, hb⟩ := h.2 i q hi; ⟨lv, e, hb.same hs⟩⟩
theorem Mem.ms {w0 w : World} {H : List Ent} {cs : List Value} {v : Value} {ms : List (Msg × List Wr)} (M : Mem w0 w H) (h : MsC cs 0 w0.heap.size w0 v ms) : MsC cs 0 w0.heap.size w v ms := h.same fun k _ h2 => M.below.block k h2
end Go.Proofs.Ytniijiipkfhjgaa

namespace Go.Proofs.Ytniijiipkfhjgaa
open Go.ChangeShapes Go.WideShapes Go.ChangeAt Go.RowKit Go.Joins
section
variable {H : Type} {enc : TypeId × Value → H} {W : World} {cs : List Value}
theorem rdt_msg (h : Rdt enc Try.prog W 45 cs) : ∃ (m : Msg) (v : Value) (x : List Wr), cs = (m.cells v).toList ∧ Ws 0 W.heap.size W v x := by
  have hl := h.len_struct Try.underlying45
  rw [show Try.prog.cellsOf 45 = 24 by kernel_rfl] at hl
  match cs, hl with
  | [c0, c1, c2, c3, c4, c5, c6, c7, c8, c9, c10, c11, c12, c13, c14, c15, c16, c17, c18, c19, c20, c21, c22, c23], _ =>
    have k1 : Try.prog.cellsOf 3 = 1 := by kernel_rfl
    obtain ⟨z0, e0, -⟩ := (show Rdt enc Try.prog W 35 [c0] from h.field Try.underlying45 0 rfl (k := 1) (by kernel_rfl)).int Try.underlying35
    obtain ⟨z1, e1, -⟩ := (show Rdt enc Try.prog W 3 [c1] from h.field Try.underlying45 1 rfl k1).i64 Try.underlying3
    obtain ⟨z2, e2, -⟩ := (show Rdt enc Try.prog W 3 [c2] from h.field Try.underlying45 2 rfl k1).i64 Try.underlying3
    obtain ⟨z3, e3, -⟩ := (show Rdt enc Try.prog W 3 [c3] from h.field Try.underlying45 3 rfl k1).i64 Try.underlying3
    obtain ⟨z4, e4, -⟩ := (show Rdt enc Try.prog W 3 [c4] from h.field Try.underlying45 4 rfl k1).i64 Try.underlying3
    obtain ⟨n, e5⟩ := rdt_nm (show Rdt enc Try.prog W 40 [c5, c6, c7] from h.field Try.underlying45 5 rfl (k := 3) (by kernel_rfl))
    obtain ⟨z8, e8, -⟩ := (show Rdt enc Try.prog W 3 [c8] from h.field Try.underlying45 6 rfl k1).i64 Try.underlying3
    obtain ⟨z9, e9, -⟩ := (show Rdt enc Try.prog W 35 [c9] from h.field Try.underlying45 7 rfl (k := 1) (by kernel_rfl)).int Try.underlying35
    obtain ⟨z10, e10, -⟩ := (show Rdt enc Try.prog W 3 [c10] from h.field Try.underlying45 8 rfl k1).i64 Try.underlying3
    obtain ⟨vv, e11⟩ := rdt_v8 (show Rdt enc Try.prog W 42 [c11, c12, c13, c14, c15, c16, c17, c18] from h.field Try.underlying45 9 rfl (k := 8) (by kernel_rfl))
    obtain ⟨z19, e19, -⟩ := (show Rdt enc Try.prog W 30 [c19] from h.field Try.underlying45 10 rfl (k := 1) (by kernel_rfl)).i64 Try.underlying30
    obtain ⟨y, e20⟩ := (show Rdt enc Try.prog W 4 [c20] from h.field Try.underlying45 11 rfl (k := 1) (by kernel_rfl)).bool Try.underlying4
    obtain ⟨z21, e21, -⟩ := (show Rdt enc Try.prog W 3 [c21] from h.field Try.underlying45 12 rfl k1).i64 Try.underlying3
    obtain ⟨z22, e22, -⟩ := (show Rdt enc Try.prog W 3 [c22] from h.field Try.underlying45 13 rfl k1).i64 Try.underlying3
    obtain ⟨u, x, e23, hw⟩ := rdt_ws (show Rdt enc Try.prog W 43 [c23] from h.field Try.underlying45 14 rfl (k := 1) (by kernel_rfl)) Try.underlying43
    have e5' : c5 = .int .i64 n.stamp ∧ c6 = .int .i64 n.inc ∧ c7 = .int .i64 n.try_ := by simpa using e5
    obtain ⟨rfl, rfl, rfl⟩ := e5'
    cases e11
    cases e0; cases e1; cases e2; cases e3; cases e4; cases e8; cases e9; cases e10; cases e19; cases e20; cases e21; cases e22; cases e23
    exact ⟨⟨z0, z1, z2, z3, z4, n, z8, z9, z10, vv, z19, y, z21, z22⟩, c23, x, rfl, hw⟩
end
end Go.Proofs.Ytniijiipkfhjgaa

namespace Go.Proofs.Ytniijiipkfhjgaa
open Go.ChangeShapes Go.WideShapes Go.ChangeAt Go.RowKit Go.Joins
section
variable {H : Type} {enc : TypeId × Value → H} {W : World} {cs : List Value}
/-- an argument of an array's type -/
theorem rdt_arr {P : Program} {t : TypeId} {m : Nat} {e : TypeId} {base : Nat} {v : Value} {d : DataW H} {ps : List MemPlace} (ht : P.underlying t = some (.array m e)) (hv : Value.okWide P W .any base t v) (h : DataW.Trod enc P W 0 (fun _ => true) true t v d ps) : ∃ cs : List Value, v = .agg cs.toArray ∧ Rdt enc P W t cs := by
  obtain ⟨fuel, h⟩ := h
  unfold Value.okWide at hv
  simp only [ht] at hv
  obtain ⟨cs, rfl, -, -⟩ := hv
  exact ⟨cs.toList, rfl, fuel, _, h⟩
theorem rdt_bytesA (h : Rdt enc Try.prog W 36 cs) : ∃ u bs, cs = [u] ∧ Bs 0 W.heap.size W u bs := by
  obtain ⟨u, bs, e, hR⟩ := h.flat (f := fun b : UInt8 => [Value.int .u8 (b.toNat : Int)]) (sz := 1) Try.underlying36 (by kernel_rfl) (by omega) (fun _ => rfl) (fun cs h => h.u8 Try.underlying5)
  have hb : bs.flatMap (fun b => [Value.int .u8 (b.toNat : Int)]) = bcells bs := by
    clear hR
    induction bs with
    | nil => rfl
    | cons z zs ih => rw [List.flatMap_cons, ih]; rfl
  rw [hb] at hR
  exact ⟨u, bs, e, hR⟩
theorem rdt_of8 (h : Rdt enc Try.prog W 22 cs) : ∃ o : Of8, cs = o.cellsL := by
  have hl := h.len_array Try.underlying22
  rw [show Try.prog.cellsOf 22 = 8 by kernel_rfl] at hl
  match cs, hl with
  | [c0, c1, c2, c3, c4, c5, c6, c7], _ =>
    have k1 : Try.prog.cellsOf 3 = 1 := by kernel_rfl
    obtain ⟨z0, e0, -⟩ := (show Rdt enc Try.prog W 3 [c0] from h.elem Try.underlying22 k1 0 (by omega)).i64 Try.underlying3
    obtain ⟨z1, e1, -⟩ := (show Rdt enc Try.prog W 3 [c1] from h.elem Try.underlying22 k1 1 (by omega)).i64 Try.underlying3
    obtain ⟨z2, e2, -⟩ := (show Rdt enc Try.prog W 3 [c2] from h.elem Try.underlying22 k1 2 (by omega)).i64 Try.underlying3
    obtain ⟨z3, e3, -⟩ := (show Rdt enc Try.prog W 3 [c3] from h.elem Try.underlying22 k1 3 (by omega)).i64 Try.underlying3
    obtain ⟨z4, e4, -⟩ := (show Rdt enc Try.prog W 3 [c4] from h.elem Try.underlying22 k1 4 (by omega)).i64 Try.underlying3
    obtain ⟨z5, e5, -⟩ := (show Rdt enc Try.prog W 3 [c5] from h.elem Try.underlying22 k1 5 (by omega)).i64 Try.underlying3
    obtain ⟨z6, e6, -⟩ := (show Rdt enc Try.prog W 3 [c6] from h.elem Try.underlying22 k1 6 (by omega)).i64 Try.underlying3
    obtain ⟨z7, e7, -⟩ := (show Rdt enc Try.prog W 3 [c7] from h.elem Try.underlying22 k1 7 (by omega)).i64 Try.underlying3
    cases e0; cases e1; cases e2; cases e3; cases e4; cases e5; cases e6; cases e7
    exact ⟨⟨z0, z1, z2, z3, z4, z5, z6, z7⟩, rfl⟩
theorem rdt_cal (h : Rdt enc Try.prog W 38 cs) : ∃ (c : Cal) (u : Value) (bs : List UInt8), cs = c.cellsL u ∧ Bs 0 W.heap.size W u bs := by
  have hl := h.len_struct Try.underlying38
  rw [show Try.prog.cellsOf 38 = 6 by kernel_rfl] at hl
  match cs, hl with
  | [c0, c1, c2, c3, c4, c5], _ =>
    have k1 : Try.prog.cellsOf 3 = 1 := by kernel_rfl
    obtain ⟨z0, e0, -⟩ := (show Rdt enc Try.prog W 35 [c0] from h.field Try.underlying38 0 rfl (k := 1) (by kernel_rfl)).int Try.underlying35
    obtain ⟨z1, e1, -⟩ := (show Rdt enc Try.prog W 3 [c1] from h.field Try.underlying38 1 rfl k1).i64 Try.underlying3
    obtain ⟨z2, e2, -⟩ := (show Rdt enc Try.prog W 3 [c2] from h.field Try.underlying38 2 rfl k1).i64 Try.underlying3
    obtain ⟨z3, e3, -⟩ := (show Rdt enc Try.prog W 3 [c3] from h.field Try.underlying38 3 rfl k1).i64 Try.underlying3
    obtain ⟨u, bs, e4, hB⟩ := rdt_bytesA (show Rdt enc Try.prog W 36 [c4] from h.field Try.underlying38 4 rfl (k := 1) (by kernel_rfl))
    obtain ⟨z5, e5, -⟩ := (show Rdt enc Try.prog W 3 [c5] from h.field Try.underlying38 5 rfl k1).i64 Try.underlying3
    cases e0; cases e1; cases e2; cases e3; cases e4; cases e5
    exact ⟨⟨z0, z1, z2, z3, z5⟩, c4, bs, rfl, hB⟩
theorem cut_at (cs : List Value) (a k : Nat) : cs.drop a = (cs.drop a).take k ++ cs.drop (a + k) := by
  rw [← List.drop_drop, List.take_append_drop]
theorem rdt_act (h : Rdt enc Try.prog W 47 cs) : ∃ (q : Act_) (u v : Value), cs = q.cellsL u v ∧ Bs 0 W.heap.size W u q.bs ∧ Ws 0 W.heap.size W v q.x := by
  have hl := h.len_struct Try.underlying47
  rw [show Try.prog.cellsOf 47 = 54 by kernel_rfl] at hl
  have k1 : Try.prog.cellsOf 3 = 1 := by kernel_rfl
  obtain ⟨z0, e0, -⟩ := (show Rdt enc Try.prog W 3 ((cs.drop 0).take 1) from h.field Try.underlying47 0 rfl k1).i64 Try.underlying3
  obtain ⟨c, u, bs, e1, hB⟩ := rdt_cal (show Rdt enc Try.prog W 38 ((cs.drop 1).take 6) from h.field Try.underlying47 1 rfl (k := 6) (by kernel_rfl))
  obtain ⟨z7, e7, -⟩ := (show Rdt enc Try.prog W 3 ((cs.drop 7).take 1) from h.field Try.underlying47 2 rfl k1).i64 Try.underlying3
  obtain ⟨m, v, x, e8, hW⟩ := rdt_msg (show Rdt enc Try.prog W 45 ((cs.drop 8).take 24) from h.field Try.underlying47 3 rfl (k := 24) (by kernel_rfl))
  obtain ⟨n, e9⟩ := rdt_nm (show Rdt enc Try.prog W 40 ((cs.drop 32).take 3) from h.field Try.underlying47 4 rfl (k := 3) (by kernel_rfl))
  obtain ⟨z35, e35, -⟩ := (show Rdt enc Try.prog W 30 ((cs.drop 35).take 1) from h.field Try.underlying47 5 rfl (k := 1) (by kernel_rfl)).i64 Try.underlying30
  obtain ⟨z36, e36, -⟩ := (show Rdt enc Try.prog W 3 ((cs.drop 36).take 1) from h.field Try.underlying47 6 rfl k1).i64 Try.underlying3
  obtain ⟨of, e37⟩ := rdt_of8 (show Rdt enc Try.prog W 22 ((cs.drop 37).take 8) from h.field Try.underlying47 7 rfl (k := 8) (by kernel_rfl))
  obtain ⟨z45, e45, -⟩ := (show Rdt enc Try.prog W 3 ((cs.drop 45).take 1) from h.field Try.underlying47 8 rfl k1).i64 Try.underlying3
  obtain ⟨vv, e46⟩ := rdt_v8 (show Rdt enc Try.prog W 42 ((cs.drop 46).take 8) from h.field Try.underlying47 9 rfl (k := 8) (by kernel_rfl))
  refine ⟨⟨z0, c, bs, z7, m, x, n, z35, z36, of, z45, vv⟩, u, v, ?_, hB, hW⟩
  have h54 : cs.drop 54 = [] := List.drop_eq_nil_of_le (by omega)
  have hc : cs = (cs.drop 0).take 1 ++ ((cs.drop 1).take 6 ++ ((cs.drop 7).take 1 ++ ((cs.drop 8).take 24 ++ ((cs.drop 32).take 3 ++ ((cs.drop 35).take 1 ++ ((cs.drop 36).take 1 ++ ((cs.drop 37).take 8 ++ ((cs.drop 45).take 1 ++ ((cs.drop 46).take 8 ++ cs.drop 54))))))))) := by
    rw [← cut_at cs 46 8, ← cut_at cs 45 1, ← cut_at cs 37 8, ← cut_at cs 36 1, ← cut_at cs 35 1, ← cut_at cs 32 3, ← cut_at cs 8 24, ← cut_at cs 7 1, ← cut_at cs 1 6, ← cut_at cs 0 1]
    rfl
  rw [e0, e1, e7, e8, e9, e35, e36, e37, e45, e46, h54] at hc
  exact hc
theorem rdt_acts {t : TypeId} (h : Rdt enc Try.prog W t cs) (ht : Try.prog.underlying t = some (.slice 47)) : ∃ va vc css l, cs = [.slice va l.length vc] ∧ RowA css 0 W.heap.size W (.slice va l.length vc) l := by
  obtain ⟨u, css, xs, e, hR, hx⟩ := h.rows (α := Act_) (Φ := fun q cs => ∃ u v, cs = q.cellsL u v ∧ Bs 0 W.heap.size W u q.bs ∧ Ws 0 W.heap.size W v q.x) (sz := 54) ht (by kernel_rfl) (by omega) (fun q cs ⟨u, v, e, _⟩ => by rw [e]; rfl) (fun cs h => rdt_act h)
  obtain ⟨va, vc, rfl, -, -⟩ := hR.form
  refine ⟨va, vc, css, xs, e, hR, fun i q hq => ?_⟩
  obtain ⟨u, v, e1, hB, hW⟩ := hx i q hq
  obtain ⟨da, dc, rfl, -, -⟩ := hB.form
  obtain ⟨wa, wc, rfl, -, -⟩ := hW.form
  exact ⟨da, dc, wa, wc, e1, hB, hW⟩
end
end Go.Proofs.Ytniijiipkfhjgaa

