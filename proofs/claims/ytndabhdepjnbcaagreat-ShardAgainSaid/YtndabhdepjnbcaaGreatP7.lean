/-
  What ShardAgain rests on, part 7.
-/
import Derived.Test.YtndabhdepjnbcaaGreatP6
namespace Go.Proofs.YtndabhdepjnbcaaGreat
open Go.RowKit Go.Sort
set_option maxHeartbeats 1000000 in
set_option maxRecDepth 10000 in
theorem scales_any {wc w : World} {A es E : List Ent} {b bd lo hi : Nat} {s : Sh} {da : Option Addr} {dc : Nat} {cs : List Value} (hl : s.h.length = 32) (hB0 : PrBk cs s.ps es) (hmq : ∀ q ∈ s.ps, mayQ q) (hps : s.ps.length ≤ 8)
 (M : Mem wc w (shE b bd s (.slice da s.ps.length dc) :: rowE lo hi 75 6 (.slice da s.ps.length dc) s.ps.length cs :: (es ++ (A ++ E)))) :
 Calls Tryz.prog 31 #[pB b] w fun e w' => ∃ bA, e = .returned (.tuple #[.int .i64 (wQ s.ps : Nat), .func (.func 51) #[] #[pB bA]]) ∧ Mem wc w' (.blk bA #[.int .i64 (wQ s.ps : Nat)] 3 :: shE b bd s (.slice da s.ps.length dc) :: rowE lo hi 75 6 (.slice da s.ps.length dc) s.ps.length cs :: (es ++ (A ++ E))) := by
 have hw2 := wtP_le s.ps hmq
 refine calls_enter Tryz.func31 rfl 25 rfl rfl ?_; intro a S
 refine wp_seq ?_
 skip
 refine wp_region_lit (qG [1, 1] S ?_); clear S a; intro a S
 refine nxA (st_alloc S M rfl rfl #[.int .i64 0] (by kernel_rfl) ?_); clear S M a; intro a w1 bA S M hB
 refine qS (sz := 1) (us := [_]) S M 0 ?_; clear M; intro w2 M
 refine nxA (qY S (y_makeFunc (fs := []) (cs := [.tmp 4]) S rfl rfl) ?_); clear S a; intro a S
 refine qG [1] S ?_; clear S a; intro a S
 refine nxC (wp_seq (nxD (qG [1, 1, 2, 272] S ?_))); clear S a; intro a S
 refine qY S (y_load S (by kernel_rfl) rfl (M.cell 1 rfl (shC_doubt hl))) ?_; clear S a; intro a S
 refine qY S (y_lenR (E := 75) S rfl (M.readAll 2 rfl (by unfold maxLen; omega)) (by kernel_rfl)) ?_; clear S a; intro a S
 refine qG [1] S ?_; clear S a; intro a S
 refine nxC (wp_block (wp_loop_g (fun m a w' => ∃ (k : Nat), k ≤ s.ps.length ∧ m = s.ps.length - k ∧ Sees 25 a [(4, pB bA), (5, .func (.func 51) #[] #[pB bA]), (13, .slice da s.ps.length dc), (14, .int .i64 (s.ps.length : Int)), (15, .int .i64 (k : Int))] ∧ Mem wc w' (.blk bA #[.int .i64 (wQ (s.ps.take k) : Nat)] 3 :: shE b bd s (.slice da s.ps.length dc) :: rowE lo hi 75 6 (.slice da s.ps.length dc) s.ps.length cs :: (es ++ (A ++ E)))) (s.ps.length) ?_ ?_))
 ·skip
  exact ⟨0, Nat.zero_le _, rfl, S.sub _ rfl, M⟩
 clear S M a; intro m a wl
 rintro ⟨k, hk, rfl, S, M⟩
 have hwk := wQ_le s.ps k
 refine nxD (qG [1] S ?_); clear S a; intro a S
 refine nxC (wp_seq (st_fi (t := 16) S rfl ?_ ?_))
 ·clear S; intro h16 S
  refine st_condF S rfl (wp_exit (then_exit (then_exit (block_hit (nxE (qR [1, 1, 1, 1] S M ?_)))))); clear S a; intro a S
  refine nxC (wp_ret (end_two S rfl (res_tmp rfl) (res_tmp rfl) ?_))
  obtain rfl : k = s.ps.length := by omega
  rw [List.take_length] at *
  exact ⟨bA, rfl, M⟩
 clear S; intro h16 S
 refine st_condT S rfl (wp_skip (then_normal (wp_seq (wp_block (wp_seq ?_)))))
 obtain ⟨q, hq⟩ : ∃ q, s.ps[k]? = some q := ⟨_, List.getElem?_eq_getElem (by omega)⟩
 obtain ⟨ad, cp, wlo, whi, hrow, hmem, hx⟩ := hB0.2.2 k q hq
 have hw9 : wQ s.ps ≤ 100 := by unfold wQ; omega
 refine wp_region_lit (qY S (y_indexR (e := 75) (sz := 6) S (by kernel_rfl) rfl ((M.readAll 2 rfl (by unfold maxLen; omega))) rfl (by first | omega | (simp; done) | (simp; omega))) ?_); clear S a; intro a S
 try simp only [Int.toNat_natCast, Nat.mul_one, Nat.zero_add] at S
 refine qY S (y_loadAgg S (by kernel_rfl) rfl rfl ((M.readAll 2 rfl (by unfold maxLen; omega)).at_.row (i := k) hrow rfl)) ?_; clear S a; intro a S
 refine st_alloc S M rfl rfl #[.int .i64 0, .int .i64 0, .int .i64 0, .slice none 0 0, .int .i64 0, .int .i64 0] (by kernel_rfl) ?_; clear S M a; intro a w3 bP S M hB
 refine qS (sz := 6) (us := [_, _, _, _, _, _]) S M 0 ?_; clear M; intro w4 M
 refine nxC ?_
 skip
 replace M := M.front 1 rfl
 simp only [List.eraseIdx_cons_succ, List.eraseIdx_cons_zero] at M
 refine wp_region_lit (qG [1] S ?_); clear S a; intro a S
 refine qY S (y_loadAgg (cs := [_, _, _, _, _, _]) S (by kernel_rfl) rfl rfl (M.cellsAt (k := 6) 1 rfl rfl)) ?_; clear S a; intro a S
 refine st_callB (xs := [.tmp 20]) (fi := []) (ca := [_]) S (enters_of Tryz.func51 (by decide) rfl) rfl rfl (rfl) rfl (scale1_any (wQ (s.ps.take k) : Nat) q ad cp M (hmq q (List.mem_of_getElem? hq)) (fun W pre M9 => rowW M9 (List.mem_append_right _ (.tail _ (.tail _ (.tail _ (List.mem_append_left _ hmem))))) hx) (by omega)) ?_
 rintro _ w5 ⟨rfl, M1⟩; refine ⟨_, rfl, ?_⟩; clear S M a; intro a S; have M := M1; clear M1
 refine wpList_nil (block_normal (nxF ?_))
 (first | refine qY S (y_addN S rfl rfl (by omega)) ?_ | refine qY S (y_int S rfl rfl rfl) ?_); clear S a; intro a S
 refine qG [1] S ?_; clear S a; intro a S
 refine nxC ?_
 skip
 replace M := M.drop 1
 simp only [List.eraseIdx_cons_succ, List.eraseIdx_cons_zero] at M
 refine ⟨s.ps.length - (k + 1), by omega, k + 1, by omega, rfl, S.sub _ rfl, ?_⟩
 rw [wQ_take hq, Int.natCast_add]; exact M
def ComeP (wc : World) (A : List Ent) (b bd : Nat) (s : Sh) (S0 : DS) (r : Rc) (x : List Wr) (all : Int) (w' : World) : Prop :=
 ∃ s1 S1, ((s1 = s ∧ S1 = S0) ∨ (s1 = s.save ∧ S1 = s.saveD S0)) ∧ (nOf (r.enc x).length : Nat) + all ≤ 24 - (s1.n - s1.a) ∧ ShM wc w' A b bd (s1.keep r x) (s1.keepD S1 r x true)
set_option maxHeartbeats 1000000 in
set_option maxRecDepth 10000 in
theorem come_any {w0 w : World} {A : List Ent} {b bd : Nat} {s : Sh} {S0 : DS} {N : Int} (r : Rc) (va : Option Addr) (vc : Nat) (x : List Wr) (all : Int) (hM : ShM w0 w A b bd s S0) (hI : ShI S0 s N) (hN : N + 2 ≤ 1000) (hs : r.shards ≤ 9223372036854775807) (hW : ∀ W, Mem w0 W A → Ws 0 W.heap.size W (.slice va x.length vc) x) (hx : x.length ≤ 1000000)
 (htk : takes r x = true) (hm : r.may x = true) (h0 : 0 ≤ all) (hall : (nOf (r.enc x).length : Nat) + all + (wtP s.ps : Nat) ≤ 24) :
 Calls Tryz.prog 32 #[pB b, .agg (r.cells (.slice va x.length vc)), .int .i64 all] w fun e w' => e = .returned (.int .i64 0) ∧ ComeP w0 A b bd s S0 r x all w' := by
 obtain ⟨da, dc, lo, hi, cs, es, E, hE, hBk, M⟩ := hM
 have hl := hI.hl
 have hlg := hI.lg
 have hI2 := hI.save (by omega)
 have hlg' := hlg
 unfold mayL at hlg'
 have hnx := hI.nx
 have hfew := hI.few
 have hno : 1 ≤ nOf (r.enc x).length ∧ nOf (r.enc x).length ≤ 2 := by have := enc_len hm; unfold nOf; omega
 have hA : ∀ W H9, Mem w0 W (H9 ++ (es ++ (A ++ E))) → Ws 0 W.heap.size W (.slice va x.length vc) x := fun W H9 M9 => hW W (M9.sub (((List.sublist_append_left A E).trans (List.sublist_append_right es _)).trans (List.sublist_append_right H9 _)))
 refine calls_enter Tryz.func32 rfl 37 rfl rfl ?_; intro a S
 refine wp_seq ?_
 skip
 refine wp_region_lit (st_box S M rfl rfl rfl #[_, _, _, _, _, _, _, _, _, _, _, _] rfl ?_); clear S M a; intro a w1 bRr S M hB
 refine qG [1] S ?_; clear S a; intro a S
 refine nxC (wp_scope_all 1000 (fun l m a w' => (l = 0 ∧ (fun m a w' => m = 2 ∧ Sees 37 a [(0, pB b), (2, .int .i64 all), (4, pB bRr), (7, .int .i64 (nOf (r.enc x).length : Nat)), (9, .bool false)] ∧ Mem w0 w' (.blk bRr (r.cells (.slice va x.length vc)) 30 :: shE b bd s (.slice da s.ps.length dc) :: rowE lo hi 75 6 (.slice da s.ps.length dc) s.ps.length cs :: (es ++ (A ++ E)))) m a w') ∨ (l = 1 ∧ (fun m a w' => m = 1 ∧ ∃ (da : Option Addr) (dc lo hi : Nat) (cs : List Value) (es E : List Ent), DkE bd (s.saveD S0) E ∧ PrBk cs s.ps es ∧ Sees 37 a [(0, pB b), (2, .int .i64 all), (4, pB bRr), (7, .int .i64 (nOf (r.enc x).length : Nat)), (9, .bool true)] ∧ Mem w0 w' (.blk bRr (r.cells (.slice va x.length vc)) 30 :: shE b bd s.save (.slice da s.ps.length dc) :: rowE lo hi 75 6 (.slice da s.ps.length dc) s.ps.length cs :: (es ++ (A ++ E)))) m a w')) ?_ ?_)
 ·skip
  refine nxD (qY S (y_loadAgg (cs := [_, _, _, _, _, _, _, _, _, _, _, _]) S (by kernel_rfl) rfl rfl (M.cellsAt (k := 12) 0 rfl rfl)) ?_); clear S a; intro a S
  refine qQ (xs := [.tmp 11]) S (qE Tryz.func52) rfl (sectorsR_any r va x.length vc x _ hs (hA _ [_, _, _] M)) M ?_; clear S M a; intro a w2 S hK M
  rw [secsN_nOf hm, if_pos hm] at S
  refine qG [1, 1, 1, 1, 1] S ?_; clear S a; intro a S
  refine nxC (wp_seq (nxD (qG [1, 1] S ?_))); clear S a; intro a S
  refine nxC (st_if (t := 16) S rfl ?_ ?_)
  ·clear S; intro h16 S
   exact absurd rfl h16
  clear S; intro h16 S
  refine st_condF S rfl (wp_skip (nxE (qG [1] S ?_))); clear S a; intro a S
  refine nxC (wp_seq (wp_label ?_))
  refine then_normal (wp_seq (nxD (qG [1, 1] S ?_))); clear S a; intro a S
  (first | refine qY S (y_addN S rfl rfl (by omega)) ?_ | refine qY S (y_int S rfl rfl rfl) ?_); clear S a; intro a S
  refine qG [1, 1, 2, 14] S ?_; clear S a; intro a S
  refine qY S (y_loadAgg (cs := [_, _]) S (by kernel_rfl) rfl rfl (M.cellsAt (k := 2) 1 rfl (shC_log _ _ _))) ?_; clear S a; intro a S
  refine qQ (xs := [.tmp 25]) S (qE Tryz.func53) rfl (FreeJ _ _ _ (by first | exact hlg | exact hI2.lg)) M ?_; clear S M a; intro a w3 S hK M
  refine qG [1] S ?_; clear S a; intro a S
  replace S := S.keep [0, 1, 2, 4, 6, 7, 8, 16, 9, 27]
  refine nxC (st_if (t := 27) S rfl ?_ ?_)
  ·clear S; intro h27 S
   refine st_condT S rfl (wp_goto ?_)
   refine then_goto ?_
   refine sg_goto ?_
   first
    | exact ⟨2, by omega, .inl ⟨rfl, rfl, S.sub _ rfl, M⟩⟩
    | (exfalso; simp only [Sh.save] at *; omega)
  clear S; intro h27 S
  refine st_condF S rfl (wp_skip (then_normal (wp_seq (wp_seq ?_))))
  obtain ⟨s9, S9, hs9, hM9, hI9, hrm9⟩ : ∃ s9 S9, ((s9 = s ∧ S9 = S0) ∨ (s9 = s.save ∧ S9 = s.saveD S0)) ∧ ShM w0 w3 ([.blk bRr (r.cells (.slice va x.length vc)) 30] ++ A) b bd s9 S9 ∧ ShI S9 s9 (N + 1) ∧ ((nOf (r.enc x).length : Nat) : Int) + all ≤ 24 - (s9.n - s9.a) := by
   first
    | exact ⟨s, S0, .inl ⟨rfl, rfl⟩, ShM.close (s := s) (P := [_]) hE hBk M, hI.mono (by omega) (by omega), by omega⟩
    | exact ⟨s.save, s.saveD S0, .inr ⟨rfl, rfl⟩, ShM.close (s := s.save) (P := [_]) hE hBk M, hI2, by simp only [Sh.save] at *; omega⟩
  refine wp_region_lit (qG [1] S ?_); clear S a; intro a S
  refine qY S (y_loadAgg (cs := [_, _, _, _, _, _, _, _, _, _, _, _]) S (by kernel_rfl) rfl rfl (M.cellsAt (k := 12) 0 rfl rfl)) ?_; clear S a; intro a S
  refine qC (xs := [.tmp 28, .tmp 29, .const (.bool true)]) S (qE Tryz.func33) rfl (keepS_any (A := [_] ++ A) (N := N + 1) r va vc x true hM9 hI9 hs (fun W M9 => hW W (M9.sub (List.sublist_append_right _ _))) hx htk hm (by omega)) ?_
  rintro _ w4 ⟨rfl, hM2⟩; refine ⟨_, rfl, ?_⟩; clear S M a; intro a S
  have M := Mem.start w4
  refine qG [1] S ?_; clear S a; intro a S
  refine nxC (wp_ret (then_ret (sg_ret ?_)))
  refine end_one S rfl (res_tmp rfl) ?_
  exact ⟨rfl, s9, S9, hs9, hrm9, hM2.drop⟩
 clear S a M; intro l m a wc hJ; rcases hJ with ⟨rfl, hJ⟩ | ⟨rfl, hJ⟩
 ·refine ⟨_, rfl, ?_⟩
  obtain ⟨rfl, S, M⟩ := hJ
  refine wp_seq (wp_skip (then_normal (wp_seq (nxD (qG [1] S ?_))))); clear S a; intro a S
  refine nxC (st_if (t := 31) S rfl ?_ ?_)
  ·clear S; intro h31 S
   cases h31
  clear S; intro h31 S
  refine st_condF S rfl (wp_skip (nxE (qG [1] S ?_))); clear S a; intro a S
  refine nxC (wp_seq (nxD (qG [1] S ?_))); clear S a; intro a S
  refine qC (xs := [.tmp 32]) S (qE Tryz.func35) rfl (saveS_any (A := [_] ++ A) (ShM.close (P := [_]) hE hBk M) hI) ?_
  rintro _ w5 ⟨rfl, hM2⟩; refine ⟨_, rfl, ?_⟩; clear S M a; intro a S
  obtain ⟨da2, dc2, lo2, hi2, cs2, es2, E2, hE2, hBk2, M⟩ := ShM.open hM2
  simp only [List.cons_append, List.nil_append] at M
  refine qG [1] S ?_; clear S a; intro a S
  refine nxA (qG [1, 1] S ?_); clear S a; intro a S
  refine nxC (st_if (t := 35) S rfl ?_ ?_)
  ·clear S; intro h35 S
   exact absurd rfl h35
  clear S; intro h35 S
  refine st_condF S rfl (wp_skip (then_normal (wp_goto ?_)))
  refine sg_goto ?_
  exact ⟨1, by omega, .inr ⟨rfl, rfl, da2, dc2, lo2, hi2, cs2, es2, E2, hE2, hBk2, S.sub _ rfl, M⟩⟩
 ·refine ⟨_, rfl, ?_⟩
  obtain ⟨rfl, da, dc, lo, hi, cs, es, E, hE, hBk, S, M⟩ := hJ
  refine wp_seq (wp_skip (then_normal (wp_seq (nxD (qG [1, 1] S ?_))))); clear S a; intro a S
  (first | refine qY S (y_addN S rfl rfl (by omega)) ?_ | refine qY S (y_int S rfl rfl rfl) ?_); clear S a; intro a S
  refine qG [1, 1, 2, 14] S ?_; clear S a; intro a S
  refine qY S (y_loadAgg (cs := [_, _]) S (by kernel_rfl) rfl rfl (M.cellsAt (k := 2) 1 rfl (shC_log _ _ _))) ?_; clear S a; intro a S
  refine qQ (xs := [.tmp 25]) S (qE Tryz.func53) rfl (FreeJ _ _ _ (by first | exact hlg | exact hI2.lg)) M ?_; clear S M a; intro a w6 S hK M
  refine qG [1] S ?_; clear S a; intro a S
  refine nxC (st_if (t := 27) S rfl ?_ ?_)
  ·clear S; intro h27 S
   refine st_condT S rfl (wp_goto ?_)
   refine then_goto ?_
   refine sg_goto ?_
   first
    | exact ⟨2, by omega, .inl ⟨rfl, rfl, S.sub _ rfl, M⟩⟩
    | (exfalso; simp only [Sh.save] at *; omega)
  clear S; intro h27 S
  refine st_condF S rfl (wp_skip (then_normal (wp_seq (wp_seq ?_))))
  obtain ⟨s9, S9, hs9, hM9, hI9, hrm9⟩ : ∃ s9 S9, ((s9 = s ∧ S9 = S0) ∨ (s9 = s.save ∧ S9 = s.saveD S0)) ∧ ShM w0 w6 ([.blk bRr (r.cells (.slice va x.length vc)) 30] ++ A) b bd s9 S9 ∧ ShI S9 s9 (N + 1) ∧ ((nOf (r.enc x).length : Nat) : Int) + all ≤ 24 - (s9.n - s9.a) := by
   first
    | exact ⟨s, S0, .inl ⟨rfl, rfl⟩, ShM.close (s := s) (P := [_]) hE hBk M, hI.mono (by omega) (by omega), by omega⟩
    | exact ⟨s.save, s.saveD S0, .inr ⟨rfl, rfl⟩, ShM.close (s := s.save) (P := [_]) hE hBk M, hI2, by simp only [Sh.save] at *; omega⟩
  refine wp_region_lit (qG [1] S ?_); clear S a; intro a S
  refine qY S (y_loadAgg (cs := [_, _, _, _, _, _, _, _, _, _, _, _]) S (by kernel_rfl) rfl rfl (M.cellsAt (k := 12) 0 rfl rfl)) ?_; clear S a; intro a S
  refine qC (xs := [.tmp 28, .tmp 29, .const (.bool true)]) S (qE Tryz.func33) rfl (keepS_any (A := [_] ++ A) (N := N + 1) r va vc x true hM9 hI9 hs (fun W M9 => hW W (M9.sub (List.sublist_append_right _ _))) hx htk hm (by omega)) ?_
  rintro _ w7 ⟨rfl, hM2⟩; refine ⟨_, rfl, ?_⟩; clear S M a; intro a S
  have M := Mem.start w7
  refine qG [1] S ?_; clear S a; intro a S
  refine nxC (wp_ret (then_ret (sg_ret ?_)))
  refine end_one S rfl (res_tmp rfl) ?_
  exact ⟨rfl, s9, S9, hs9, hrm9, hM2.drop⟩
end Go.Proofs.YtndabhdepjnbcaaGreat

namespace Go.Proofs.YtndabhdepjnbcaaGreat
open Go.RowKit Go.Sort
abbrev r3 (nm : Nm) (y : Bool) : Rc := { Rc.zero with kind := 3, name := nm, yes := y }
theorem r3_may {nm : Nm} (y : Bool) (h : nm.named = true) : (r3 nm y).may [] = true := by
 simp [Rc.may, Rc.ok, Rc.rest, Rc.zero, Rc.same, h, Nm.eqb, eqWs]
theorem prRc_prOf {r : Rc} {x : List Wr} (hm : r.may x = true) (hk : r.kind = 2) : prRc (prOf r) = r := by
 rcases may_cases hm with ⟨a, -⟩ | ⟨-, e, -⟩ | ⟨a, -⟩ | ⟨a, -⟩ | ⟨a, -⟩ | ⟨a, -⟩ | ⟨a, -⟩
 all_goals first | omega | skip
 rw [e]; rfl
theorem mayQ_name {q : Pr × List Wr} (h : mayQ q) : q.1.name.named = true := by
 rcases may_cases h with ⟨a, -⟩ | ⟨-, -, h1, -⟩ | ⟨a, -⟩ | ⟨a, -⟩ | ⟨a, -⟩ | ⟨a, -⟩ | ⟨a, -⟩
 all_goals first | (simp [prRc] at a; done) | skip
 exact h1
theorem may_x {r : Rc} {x : List Wr} (h : r.may x = true) : x.length ≤ 8 := by
 have hw : ∀ {y : List Wr}, writtenB y = true → y.length ≤ 8 := fun {y} h => by unfold writtenB at h; simp at h; omega
 rcases may_cases h with ⟨-, -, -, h1⟩ | ⟨-, -, -, h1, -⟩ | ⟨-, -, e, -⟩ | ⟨-, -, e, -⟩ | ⟨-, -, e, -⟩ | ⟨-, -, e, -⟩ | ⟨-, -, e, -⟩
 ·exact hw h1
 ·exact hw h1
 all_goals (rw [e]; exact Nat.zero_le _)
def LocalOk (s : Sh) (r : Rc) (x : List Wr) : Prop := r.may x = true ∧ r.kind = 1 ∧ findP r.name s.ps = none
set_option maxHeartbeats 1000000 in
set_option maxRecDepth 10000 in
theorem local11_any {wc w : World} {A : List Ent} {b bd : Nat} {s : Sh} {S0 : DS} {N : Int} (r : Rc) (va : Option Addr) (vc : Nat) (x : List Wr) (hM : ShM wc w A b bd s S0) (hI : ShI S0 s N) (hN : N + 2 ≤ 1000) (hinc : 1 ≤ s.x.inc) (hs : r.shards ≤ 9223372036854775807) (hW : ∀ W, Mem wc W A → Ws 0 W.heap.size W (.slice va x.length vc) x) :
 Calls Tryz.prog 12 #[pB b, .agg (r.cells (.slice va x.length vc))] w fun e w' => ∃ er, e = .returned (.int .i64 er) ∧ ((er = 0 ∧ LocalOk s r x ∧ ComeP wc A b bd s S0 r x (wQ s.ps : Nat) w') ∨ ((er = 2 ∨ er = 111) ∧ ShM wc w' A b bd s S0)) := by
 obtain ⟨da, dc, lo, hi, cs, es, E, hE, hBk, M⟩ := hM
 have hl := hI.hl
 have hw8 := hI.w8
 have hok := stX_ok s.x s.a s.n s.k hl
 have hA : ∀ W H9, Mem wc W (H9 ++ (es ++ (A ++ E))) → Ws 0 W.heap.size W (.slice va x.length vc) x := fun W H9 M9 => hW W (M9.sub (((List.sublist_append_left A E).trans (List.sublist_append_right es _)).trans (List.sublist_append_right H9 _)))
 refine calls_enter Tryz.func12 rfl 48 rfl rfl ?_; intro a S
 refine wp_seq ?_
 skip
 refine wp_region_lit (st_box S M rfl rfl rfl #[_, _, _, _, _, _, _, _, _, _, _, _] rfl ?_); clear S M a; intro a w1 bRr S M hB
 refine qG [1] S ?_; clear S a; intro a S
 refine nxC (wp_seq (nxD (qG [1] S ?_))); clear S a; intro a S
 refine qY S (y_eqlPS (by kernel_rfl) S rfl) ?_; clear S a; intro a S
 refine nxC (st_condF S rfl (wp_skip (then_normal (wp_seq (nxD (qG [1, 1, 2, 1, 4] S ?_)))))); clear S a; intro a S
 refine qY S (y_load S (by kernel_rfl) rfl (M.cell 1 rfl (shC_inc _ _ _))) ?_; clear S a; intro a S
 refine qG [1, 1] S ?_; clear S a; intro a S
 refine st_if (t := 18) S rfl ?_ ?_
 ·clear S; intro h18 S
  exfalso; omega
 clear S; intro h18 S
 refine qR [1, 1, 1, 1, 1] S M ?_; clear S a; intro a S
 refine st_if (t := 23) S rfl ?_ ?_
 ·clear S; intro h23 S
  refine qG [0, 0, 0, 1] S ?_; clear S a; intro a S
  replace S := S.keep [0, 1, 3, 4, 10, 27]
  refine nxC (st_condT S rfl (nxD (qG [1] S ?_))); clear S a; intro a S
  refine nxC (wp_ret (then_ret (end_one S rfl (res_tmp rfl) ?_)))
  exact ⟨2, rfl, .inr ⟨.inl rfl, ShM.close (P := []) hE hBk (M.drop 0)⟩⟩
 clear S; intro h23 S
 refine qY S (y_loadAgg (cs := [_, _, _, _, _, _, _, _, _, _, _, _]) S (by kernel_rfl) rfl rfl (M.cellsAt (k := 12) 0 rfl rfl)) ?_; clear S a; intro a S
 refine qQ (xs := [.tmp 24]) S (qE Tryz.func29) rfl (may_any r va x.length vc x _ hs (hA _ [_, _, _] M)) M ?_; clear S M a; intro a w2 S hK M
 refine qG [1, 1] S ?_; clear S a; intro a S
 replace S := S.keep [0, 1, 3, 4, 10, 27]
 refine nxC (st_if (t := 27) S rfl ?_ ?_)
 ·clear S; intro h27 S
  refine st_condT S rfl (nxD (qG [1] S ?_)); clear S a; intro a S
  refine nxC (wp_ret (then_ret (end_one S rfl (res_tmp rfl) ?_)))
  exact ⟨2, rfl, .inr ⟨.inl rfl, ShM.close (P := []) hE hBk (M.drop 0)⟩⟩
 clear S; intro h27 S
 refine st_condF S rfl (wp_skip (then_normal (wp_seq (wp_seq (wp_regionK [] #[false, false, false, false, false, false, false, false, false, false, false, false] rfl M (by kernel_rfl) ?_))))); clear M; intro w3 M
 refine k_pure 0 S rfl (fun w => y_move S rfl) ?_; clear S a; intro a S
 refine k_pure 1 S rfl (fun w => y_nilCheck S rfl) ?_; clear S a; intro a S
 refine k_pure 2 S rfl (fun w => y_fieldAddr (k := 1) S (by kernel_rfl) rfl) ?_; clear S a; intro a S
 refine k_read 3 S rfl (fun w hW => have M := M.grow hW; y_loadAgg (k := 273) S (by kernel_rfl) rfl (by with_reducible first | exact St.len hok _ | exact shC_len hl | exact len1S _) (M.cellsMid 1 rfl (by with_reducible first | exact St.len hok _ | exact shC_len hl | exact len1S _))) ?_; clear S a; intro a S
 refine k_pure 4 S rfl (fun w => y_fieldAddr (k := 1) S (by kernel_rfl) rfl) ?_; clear S a; intro a S
 refine k_read 5 S rfl (fun w hW => have M := M.grow hW; y_loadAgg (cs := [_, _, _]) S (by kernel_rfl) rfl rfl (M.cellsAt (k := 3) 0 rfl rfl)) ?_; clear S a; intro a S
 refine k_one 6 rfl (by kernel_rfl) ?_
 refine qC (xs := [.tmp 32, .tmp 34]) S (qE Tryz.func30) rfl (find_any s.st hok (.slice da s.ps.length dc) cs s.ps r.name _ (DoubtRd (A := A) (E := E) (pre := [_, _]) hBk (by omega) M)) ?_
 rintro _ w4 ⟨kk, yy, rfl, hK, hy⟩; refine ⟨_, rfl, ?_⟩; clear S a; intro a S; replace M := M.grow hK
 refine wpList_nil ?_; refine then_normal ?_; refine ⟨fun _ => hK, ?_⟩
 refine k_pure 7 S rfl (fun w => y_move S rfl) ?_; clear S a; intro a S
 refine k_pure 8 S rfl (fun w => y_extract S rfl rfl) ?_; clear S a; intro a S
 refine k_pure 9 S rfl (fun w => y_extract S rfl rfl) ?_; clear S a; intro a S
 refine k_pure 10 S rfl (fun w => y_assign S rfl) ?_; clear S a; intro a S
 refine k_pure 11 S rfl (fun w => y_assign S rfl) ?_; clear S a; intro a S
 refine k_end (by kernel_rfl) ?_
 refine nxE (qG [1] S ?_); clear S a; intro a S
 refine nxC (st_if (t := 38) S rfl ?_ ?_)
 ·clear S; intro h38 S
  refine st_condT S rfl (nxD (qG [1] S ?_)); clear S a; intro a S
  refine nxC (wp_ret (then_ret (end_one S rfl (res_tmp rfl) ?_)))
  exact ⟨111, rfl, .inr ⟨.inr rfl, ShM.close (P := []) hE hBk (M.drop 0)⟩⟩
 clear S; intro h38 S
 refine st_condF S rfl (wp_skip (then_normal (wp_seq ?_)))
 skip
 obtain ⟨hm, h1⟩ : r.may x = true ∧ r.kind = 1 := by simp_all
 have hf : findP r.name s.ps = none := by
  rcases hy with ⟨h9, -⟩ | ⟨-, -, h9⟩
  ·simp_all
  ·exact h9
 have hx8 := may_x hm
 have hno : nOf (r.enc x).length ≤ 2 := by have := enc_len hm; unfold nOf; omega
 replace M := M.perm (perm_close (P := [_]))
 refine wp_region_lit (qG [1] S ?_); clear S a; intro a S
 refine qC (xs := [.tmp 40]) S (qE Tryz.func31) rfl (scales_any (A := [_] ++ A) hl hBk hI.mq (by omega) M) ?_
 rintro _ w5 ⟨bA, rfl, M1⟩; refine ⟨_, rfl, ?_⟩; clear S M a; intro a S
 have M := M1.perm (List.Perm.cons _ (perm_close (P := [_])).symm)
 clear M1
 simp only [List.cons_append, List.nil_append] at M
 refine qG [1, 1, 1, 1, 1] S ?_; clear S a; intro a S
 replace S := S.keep [0, 1, 3, 4, 10, 27, 6, 38, 7]
 refine nxA (qG [1] S ?_); clear S a; intro a S
 refine qY S (y_loadAgg (cs := [_, _, _, _, _, _, _, _, _, _, _, _]) S (by kernel_rfl) rfl rfl (M.cellsAt (k := 12) 1 rfl rfl)) ?_; clear S a; intro a S
 refine qG [1] S ?_; clear S a; intro a S
 refine qC (xs := [.tmp 44, .tmp 45, .tmp 46]) S (qE Tryz.func32) rfl (come_any (A := [_, _] ++ A) r va vc x (wQ s.ps : Nat) (ShM.close (P := [_, _]) hE hBk M) hI hN hs (fun W M9 => hW W (M9.sub (List.sublist_append_right _ _))) (by omega) (by unfold takes; rw [hm, decide_eq_true (by omega)]; rfl) hm (by omega) (by unfold wQ; omega)) ?_
 rintro _ w6 ⟨rfl, hC⟩; refine ⟨_, rfl, ?_⟩; clear S M a; intro a S
 have M := Mem.start w6
 refine qG [1] S ?_; clear S a; intro a S
 refine nxC (wp_ret (end_one S rfl (res_tmp rfl) ?_))
 obtain ⟨s1, S1, hs1, hr1, hM1⟩ := hC
 exact ⟨0, rfl, .inl ⟨rfl, ⟨hm, h1, hf⟩, s1, S1, hs1, hr1, hM1.drop⟩⟩
theorem scale1r_any {wc w : World} {H : List Ent} {bA : Nat} (n : Int) (r : Rc) (x : List Wr) (ad : Option Addr) (cp : Nat) (M : Mem wc w (.blk bA #[.int .i64 n] 3 :: H)) (hm : mayQ (prOf r, x)) (hW2 : ∀ W pre, Mem wc W (pre ++ H) → Ws 0 W.heap.size W (.slice ad x.length cp) x) (hn : 0 ≤ n ∧ n ≤ 1000) :
 Calls Tryz.prog 51 #[.agg #[.int .i64 r.name.stamp, .int .i64 r.name.inc, .int .i64 r.name.try_, .slice ad x.length cp, .int .i64 r.give, .int .i64 r.take], pB bA] w fun e w' => e = .returned (.int .i64 (n + (secQ (prOf r, x) + 1 : Nat))) ∧ Mem wc w' (.blk bA #[.int .i64 (n + (secQ (prOf r, x) + 1 : Nat))] 3 :: H) :=
 scale1_any n (prOf r, x) ad cp M hm hW2 hn
def PrepOk (s : Sh) (r : Rc) (x : List Wr) : Prop := r.may x = true ∧ r.kind = 2 ∧ findP r.name s.ps = none
set_option maxHeartbeats 1000000 in
set_option maxRecDepth 10000 in
theorem prepare11_any {wc w : World} {A : List Ent} {b bd : Nat} {s : Sh} {S0 : DS} {N : Int} (r : Rc) (va : Option Addr) (vc : Nat) (x : List Wr) (hM : ShM wc w A b bd s S0) (hI : ShI S0 s N) (hN : N + 2 ≤ 1000) (hinc : 1 ≤ s.x.inc) (hs : r.shards ≤ 9223372036854775807) (hW : ∀ W, Mem wc W A → Ws 0 W.heap.size W (.slice va x.length vc) x) :
 Calls Tryz.prog 13 #[pB b, .agg (r.cells (.slice va x.length vc))] w fun e w' => ∃ er, e = .returned (.int .i64 er) ∧ ((er = 0 ∧ PrepOk s r x ∧ wQ s.ps + (nOf (r.enc x).length + 1) ≤ 8 ∧ ComeP wc A b bd s S0 r x (wQ s.ps + (nOf (r.enc x).length + 1) : Nat) w') ∨ (er ≠ 0 ∧ (PrepOk s r x → er = 50 ∧ 8 < wQ s.ps + (nOf (r.enc x).length + 1)) ∧ ShM wc w' A b bd s S0)) := by
 obtain ⟨da, dc, lo, hi, cs, es, E, hE, hBk, M⟩ := hM
 have hl := hI.hl
 have hw8 := hI.w8
 have hok := stX_ok s.x s.a s.n s.k hl
 have hA : ∀ W H9, Mem wc W (H9 ++ (es ++ (A ++ E))) → Ws 0 W.heap.size W (.slice va x.length vc) x := fun W H9 M9 => hW W (M9.sub (((List.sublist_append_left A E).trans (List.sublist_append_right es _)).trans (List.sublist_append_right H9 _)))
 refine calls_enter Tryz.func13 rfl 62 rfl rfl ?_; intro a S
 refine wp_seq ?_
 skip
 refine wp_region_lit (st_box S M rfl rfl rfl #[_, _, _, _, _, _, _, _, _, _, _, _] rfl ?_); clear S M a; intro a w1 bRr S M hB
 refine qG [1] S ?_; clear S a; intro a S
 refine nxC (wp_seq (nxD (qG [1] S ?_))); clear S a; intro a S
 refine qY S (y_eqlPS (by kernel_rfl) S rfl) ?_; clear S a; intro a S
 refine nxC (st_condF S rfl (wp_skip (then_normal (wp_seq (nxD (qG [1, 1, 2, 1, 4] S ?_)))))); clear S a; intro a S
 refine qY S (y_load S (by kernel_rfl) rfl (M.cell 1 rfl (shC_inc _ _ _))) ?_; clear S a; intro a S
 refine qG [1, 1] S ?_; clear S a; intro a S
 refine st_if (t := 19) S rfl ?_ ?_
 ·clear S; intro h19 S
  refine qG [0, 0, 0, 1, 1, 0, 0, 0, 1] S ?_; clear S a; intro a S
  replace S := S.keep [0, 1, 3, 4, 11, 28]
  refine nxC (st_condT S rfl (nxD (qG [1] S ?_))); clear S a; intro a S
  refine nxC (wp_ret (then_ret (end_one S rfl (res_tmp rfl) ?_)))
  exact ⟨2, rfl, .inr ⟨by decide, (fun h9 => by obtain ⟨k1, k2, -⟩ := h9; simp_all), ShM.close (P := []) hE hBk (M.drop 0)⟩⟩
 clear S; intro h19 S
 refine qR [1, 1, 1, 1, 1] S M ?_; clear S a; intro a S
 refine st_if (t := 24) S rfl ?_ ?_
 ·clear S; intro h24 S
  refine qG [0, 0, 0, 1] S ?_; clear S a; intro a S
  replace S := S.keep [0, 1, 3, 4, 11, 28]
  refine nxC (st_condT S rfl (nxD (qG [1] S ?_))); clear S a; intro a S
  refine nxC (wp_ret (then_ret (end_one S rfl (res_tmp rfl) ?_)))
  exact ⟨2, rfl, .inr ⟨by decide, (fun h9 => by obtain ⟨k1, k2, -⟩ := h9; simp_all), ShM.close (P := []) hE hBk (M.drop 0)⟩⟩
 clear S; intro h24 S
 refine qY S (y_loadAgg (cs := [_, _, _, _, _, _, _, _, _, _, _, _]) S (by kernel_rfl) rfl rfl (M.cellsAt (k := 12) 0 rfl rfl)) ?_; clear S a; intro a S
 refine qQ (xs := [.tmp 25]) S (qE Tryz.func29) rfl (may_any r va x.length vc x _ hs (hA _ [_, _, _] M)) M ?_; clear S M a; intro a w2 S hK M
 refine qG [1, 1] S ?_; clear S a; intro a S
 replace S := S.keep [0, 1, 3, 4, 11, 28]
 refine nxC (st_if (t := 28) S rfl ?_ ?_)
 ·clear S; intro h28 S
  refine st_condT S rfl (nxD (qG [1] S ?_)); clear S a; intro a S
  refine nxC (wp_ret (then_ret (end_one S rfl (res_tmp rfl) ?_)))
  exact ⟨2, rfl, .inr ⟨by decide, (fun h9 => by obtain ⟨k1, k2, -⟩ := h9; simp_all), ShM.close (P := []) hE hBk (M.drop 0)⟩⟩
 clear S; intro h28 S
 refine st_condF S rfl (wp_skip (then_normal (wp_seq (wp_seq (wp_regionK [] #[false, false, false, false, false, false, false, false, false, false, false, false] rfl M (by kernel_rfl) ?_))))); clear M; intro w3 M
 refine k_pure 0 S rfl (fun w => y_move S rfl) ?_; clear S a; intro a S
 refine k_pure 1 S rfl (fun w => y_nilCheck S rfl) ?_; clear S a; intro a S
 refine k_pure 2 S rfl (fun w => y_fieldAddr (k := 1) S (by kernel_rfl) rfl) ?_; clear S a; intro a S
 refine k_read 3 S rfl (fun w hW => have M := M.grow hW; y_loadAgg (k := 273) S (by kernel_rfl) rfl (by with_reducible first | exact St.len hok _ | exact shC_len hl | exact len1S _) (M.cellsMid 1 rfl (by with_reducible first | exact St.len hok _ | exact shC_len hl | exact len1S _))) ?_; clear S a; intro a S
 refine k_pure 4 S rfl (fun w => y_fieldAddr (k := 1) S (by kernel_rfl) rfl) ?_; clear S a; intro a S
 refine k_read 5 S rfl (fun w hW => have M := M.grow hW; y_loadAgg (cs := [_, _, _]) S (by kernel_rfl) rfl rfl (M.cellsAt (k := 3) 0 rfl rfl)) ?_; clear S a; intro a S
 refine k_one 6 rfl (by kernel_rfl) ?_
 refine qC (xs := [.tmp 33, .tmp 35]) S (qE Tryz.func30) rfl (find_any s.st hok (.slice da s.ps.length dc) cs s.ps r.name _ (DoubtRd (A := A) (E := E) (pre := [_, _]) hBk (by omega) M)) ?_
 rintro _ w4 ⟨kk, yy, rfl, hK, hy⟩; refine ⟨_, rfl, ?_⟩; clear S a; intro a S; replace M := M.grow hK
 refine wpList_nil ?_; refine then_normal ?_; refine ⟨fun _ => hK, ?_⟩
 refine k_pure 7 S rfl (fun w => y_move S rfl) ?_; clear S a; intro a S
 refine k_pure 8 S rfl (fun w => y_extract S rfl rfl) ?_; clear S a; intro a S
 refine k_pure 9 S rfl (fun w => y_extract S rfl rfl) ?_; clear S a; intro a S
 refine k_pure 10 S rfl (fun w => y_assign S rfl) ?_; clear S a; intro a S
 refine k_pure 11 S rfl (fun w => y_assign S rfl) ?_; clear S a; intro a S
 refine k_end (by kernel_rfl) ?_
 refine nxE (qG [1] S ?_); clear S a; intro a S
 refine nxC (st_if (t := 39) S rfl ?_ ?_)
 ·clear S; intro h39 S
  refine st_condT S rfl (nxD (qG [1] S ?_)); clear S a; intro a S
  refine nxC (wp_ret (then_ret (end_one S rfl (res_tmp rfl) ?_)))
  exact ⟨111, rfl, .inr ⟨by decide, (fun h9 => by obtain ⟨-, -, k3⟩ := h9; rw [k3] at hy; simp_all), ShM.close (P := []) hE hBk (M.drop 0)⟩⟩
 clear S; intro h39 S
 refine st_condF S rfl (wp_skip (then_normal (wp_seq ?_)))
 skip
 obtain ⟨hm, h2⟩ : r.may x = true ∧ r.kind = 2 := by simp_all
 have hf : findP r.name s.ps = none := by
  rcases hy with ⟨h9, -⟩ | ⟨-, -, h9⟩
  ·simp_all
  ·exact h9
 have hx8 := may_x hm
 have hpr : prRc (prOf r) = r := prRc_prOf hm h2
 have hmq : mayQ (prOf r, x) := by unfold mayQ; rw [hpr]; exact hm
 have hsq : secQ (prOf r, x) = nOf (r.enc x).length := by unfold secQ encQ; rw [hpr]
 have hno : nOf (r.enc x).length ≤ 2 := by have := enc_len hm; unfold nOf; omega
 replace M := M.perm (perm_close (P := [_]))
 refine wp_region_lit (qG [1] S ?_); clear S a; intro a S
 refine qC (xs := [.tmp 41]) S (qE Tryz.func31) rfl (scales_any (A := [_] ++ A) hl hBk hI.mq (by omega) M) ?_
 rintro _ w5 ⟨bA, rfl, M1⟩; refine ⟨_, rfl, ?_⟩; clear S M a; intro a S
 have M := M1.perm (List.Perm.cons _ (perm_close (P := [_])).symm)
 clear M1
 simp only [List.cons_append, List.nil_append] at M
 refine qG [1, 1, 1, 1, 1] S ?_; clear S a; intro a S
 replace S := S.keep [0, 1, 3, 4, 11, 28, 6, 39, 8]
 refine nxA (qG [1, 2] S ?_); clear S a; intro a S
 refine qY S (y_loadAgg (cs := [_, _, _]) S (by kernel_rfl) rfl rfl (M.cellsAt (k := 3) 1 rfl rfl)) ?_; clear S a; intro a S
 refine qR [6, 2, 7, 2, 8, 2] S M ?_; clear S a; intro a S
 refine qY S (y_build (ps := [(0, .tmp 47), (1, .tmp 49), (2, .tmp 51), (3, .tmp 53)]) (pl := [(0, 3), (3, 1), (4, 1), (5, 1)]) (z := [.int .i64 0, .int .i64 0, .int .i64 0, .slice none 0 0, .int .i64 0, .int .i64 0]) (cs := [_, _, _, _, _, _]) S (by kernel_rfl) rfl (rfl)) ?_; clear S a; intro a S
 refine st_callB (xs := [.tmp 54]) (fi := []) (ca := [pB bA]) S (enters_of Tryz.func51 (by decide) rfl) rfl rfl (rfl) rfl (scale1r_any (wQ s.ps : Nat) r x va vc M hmq (fun W pre M9 => hA W (pre ++ [_, _, _]) (by simpa only [List.append_assoc, List.cons_append, List.nil_append] using M9)) (by unfold wQ; omega)) ?_
 rintro _ w6 ⟨rfl, M1⟩; refine ⟨_, rfl, ?_⟩; clear S M a; intro a S
 rw [hsq, ← Int.natCast_add] at M1 S
 have M := M1
 clear M1
 refine qG [1] S ?_; clear S a; intro a S
 refine nxC (wp_seq (nxD (qG [1, 1] S ?_))); clear S a; intro a S
 refine nxC (st_if (t := 57) S rfl ?_ ?_)
 ·clear S; intro h57 S
  refine st_condT S rfl (nxD (qG [1] S ?_)); clear S a; intro a S
  refine nxC (wp_ret (then_ret (end_one S rfl (res_tmp rfl) ?_)))
  exact ⟨50, rfl, .inr ⟨by decide, (fun _ => ⟨rfl, by omega⟩), ShM.close (P := []) hE hBk ((M.drop 0).drop 0)⟩⟩
 clear S; intro h57 S
 refine st_condF S rfl (wp_skip (nxE (qG [1] S ?_))); clear S a; intro a S
 refine qY S (y_loadAgg (cs := [_, _, _, _, _, _, _, _, _, _, _, _]) S (by kernel_rfl) rfl rfl (M.cellsAt (k := 12) 1 rfl rfl)) ?_; clear S a; intro a S
 refine qG [1] S ?_; clear S a; intro a S
 refine qC (xs := [.tmp 58, .tmp 59, .tmp 60]) S (qE Tryz.func32) rfl (come_any (A := [_, _] ++ A) r va vc x (wQ s.ps + (nOf (r.enc x).length + 1) : Nat) (ShM.close (P := [_, _]) hE hBk M) hI hN hs (fun W M9 => hW W (M9.sub (List.sublist_append_right _ _))) (by omega) (by unfold takes; rw [hm, decide_eq_true (by omega)]; rfl) hm (by omega) (by unfold wQ at *; omega)) ?_
 rintro _ w7 ⟨rfl, hC⟩; refine ⟨_, rfl, ?_⟩; clear S M a; intro a S
 have M := Mem.start w7
 refine qG [1] S ?_; clear S a; intro a S
 replace S := S.keep [0, 1, 3, 11, 28, 6, 39, 8, 9, 57, 4]
 refine nxC (wp_ret (end_one S rfl (res_tmp rfl) ?_))
 obtain ⟨s1, S1, hs1, hr1, hM1⟩ := hC
 exact ⟨0, rfl, .inl ⟨rfl, ⟨hm, h2, hf⟩, by omega, s1, S1, hs1, hr1, hM1.drop⟩⟩
theorem findP_name {nm : Nm} {ps : Pl} {k : Nat} (h : findP nm ps = some k) : ∃ q, ps[k]? = some q ∧ q.1.name = nm := by
 induction ps generalizing k with
 | nil => simp [findP] at h
 | cons p ps ih =>
   rw [findP] at h
   split at h
   ·rename_i hp
    obtain rfl : 0 = k := by simpa using h
    exact ⟨p, rfl, Nm.eqb_iff.1 hp⟩
   ·cases hf : findP nm ps with
    | none => rw [hf] at h; simp at h
    | some j =>
      rw [hf] at h
      obtain rfl : j + 1 = k := by simpa using h
      obtain ⟨q, hq, hn⟩ := ih hf
      exact ⟨q, by simpa using hq, hn⟩
set_option maxHeartbeats 1000000 in
set_option maxRecDepth 10000 in
theorem outcome11_any {wc w : World} {A : List Ent} {b bd : Nat} {s : Sh} {S0 : DS} {N : Int} (nm : Nm) (y : Bool) (hM : ShM wc w A b bd s S0) (hI : ShI S0 s N) (hinc : 1 ≤ s.x.inc) :
 Calls Tryz.prog 14 #[pB b, .agg nm.cells, .bool y] w fun e w' => ∃ er, e = .returned (.int .i64 er) ∧ ((er = 0 ∧ (∃ k, findP nm s.ps = some k) ∧ ShM wc w' A b bd (s.keep (r3 nm y) []) (s.keepD S0 (r3 nm y) [] y)) ∨ (er ≠ 0 ∧ er = 110 ∧ findP nm s.ps = none ∧ ShM wc w' A b bd s S0)) := by
 obtain ⟨da, dc, lo, hi, cs, es, E, hE, hBk, M⟩ := hM
 have hl := hI.hl
 have hw8 := hI.w8
 have hok := stX_ok s.x s.a s.n s.k hl
 refine calls_enter Tryz.func14 rfl 35 rfl rfl ?_; intro a S
 refine wp_seq ?_
 skip
 refine wp_region_lit (st_box S M rfl rfl rfl #[_, _, _] rfl ?_); clear S M a; intro a w1 bRr S M hB
 refine qG [1] S ?_; clear S a; intro a S
 refine nxC (wp_seq (nxD (qG [1] S ?_))); clear S a; intro a S
 refine qY S (y_eqlPS (by kernel_rfl) S rfl) ?_; clear S a; intro a S
 refine nxC (st_condF S rfl (wp_skip (then_normal (wp_seq (nxD (qG [1, 1, 2, 1, 4] S ?_)))))); clear S a; intro a S
 refine qY S (y_load S (by kernel_rfl) rfl (M.cell 1 rfl (shC_inc _ _ _))) ?_; clear S a; intro a S
 refine qG [1] S ?_; clear S a; intro a S
 refine nxC (st_if (t := 17) S rfl ?_ ?_)
 ·clear S; intro h17 S
  exfalso; omega
 clear S; intro h17 S
 refine st_condF S rfl (wp_skip (then_normal (wp_seq (wp_seq (wp_regionK [] #[false, false, false, false, false, false, false, false, false, false, false] rfl M (by kernel_rfl) ?_))))); clear M; intro w2 M
 refine k_pure 0 S rfl (fun w => y_move S rfl) ?_; clear S a; intro a S
 refine k_pure 1 S rfl (fun w => y_nilCheck S rfl) ?_; clear S a; intro a S
 refine k_pure 2 S rfl (fun w => y_fieldAddr (k := 1) S (by kernel_rfl) rfl) ?_; clear S a; intro a S
 refine k_read 3 S rfl (fun w hW => have M := M.grow hW; y_loadAgg (k := 273) S (by kernel_rfl) rfl (by with_reducible first | exact St.len hok _ | exact shC_len hl | exact len1S _) (M.cellsMid 1 rfl (by with_reducible first | exact St.len hok _ | exact shC_len hl | exact len1S _))) ?_; clear S a; intro a S
 refine k_read 4 S rfl (fun w hW => have M := M.grow hW; y_loadAgg (cs := [_, _, _]) S (by kernel_rfl) rfl rfl (M.cellsAt (k := 3) 0 rfl rfl)) ?_; clear S a; intro a S
 refine k_one 5 rfl (by kernel_rfl) ?_
 refine qC (xs := [.tmp 22, .tmp 23]) S (qE Tryz.func30) rfl (find_any s.st hok (.slice da s.ps.length dc) cs s.ps nm _ (DoubtRd (A := A) (E := E) (pre := [_, _]) hBk (by omega) M)) ?_
 rintro _ w3 ⟨kk, yy, rfl, hK, hy⟩; refine ⟨_, rfl, ?_⟩; clear S a; intro a S; replace M := M.grow hK
 refine wpList_nil ?_; refine then_normal ?_; refine ⟨fun _ => hK, ?_⟩
 refine k_pure 6 S rfl (fun w => y_move S rfl) ?_; clear S a; intro a S
 refine k_pure 7 S rfl (fun w => y_extract S rfl rfl) ?_; clear S a; intro a S
 refine k_pure 8 S rfl (fun w => y_extract S rfl rfl) ?_; clear S a; intro a S
 refine k_pure 9 S rfl (fun w => y_assign S rfl) ?_; clear S a; intro a S
 refine k_pure 10 S rfl (fun w => y_assign S rfl) ?_; clear S a; intro a S
 refine k_end (by kernel_rfl) ?_
 replace S := S.keep [0, 1, 2, 4, 6, 10, 17, 8]
 refine nxE (qG [1, 1] S ?_); clear S a; intro a S
 refine nxC (st_if (t := 28) S rfl ?_ ?_)
 ·clear S; intro h28 S
  refine st_condT S rfl (nxD (qG [1] S ?_)); clear S a; intro a S
  refine nxC (wp_ret (then_ret (end_one S rfl (res_tmp rfl) ?_)))
  exact ⟨110, rfl, .inr ⟨by decide, rfl, (hy.elim (fun h9 => by simp_all) (fun h9 => h9.2.2)), ShM.close (P := []) hE hBk (M.drop 0)⟩⟩
 clear S; intro h28 S
 refine st_condF S rfl (wp_skip (then_normal (wp_seq ?_)))
 have hf : findP nm s.ps = some kk := by
  rcases hy with ⟨-, h9⟩ | ⟨h9, -, -⟩
  ·exact h9
  ·simp_all
 obtain ⟨q, hq, hqn⟩ := findP_name hf
 have hmq := hI.mq q (List.mem_of_getElem? hq)
 have hm : (r3 nm y).may [] = true := r3_may y (by rw [← hqn]; exact mayQ_name hmq)
 have hno : nOf ((r3 nm y).enc []).length ≤ 2 := by have := enc_len hm; unfold nOf; omega
 have hrm := hI.room
 have hpl := (List.getElem?_eq_some_iff.1 hq).1
 have hsq := secQ_le hmq
 have hw1 : secQ q ≤ wtP s.ps := by
  have h1 := wtP_take hq
  have h2 : wtP s.ps = wtP (s.ps.take (kk + 1)) + wtP (s.ps.drop (kk + 1)) := by rw [← wtP_append, List.take_append_drop]
  omega
 refine wp_region_lit (qG [1] S ?_); clear S a; intro a S
 refine qY S (y_loadAgg (cs := [_, _, _]) S (by kernel_rfl) rfl rfl (M.cellsAt (k := 3) 0 rfl rfl)) ?_; clear S a; intro a S
 refine qG [1] S ?_; clear S a; intro a S
 refine qY S (y_build (ps := [(0, .const (.int .i8 3)), (1, .tmp 30), (2, .tmp 31)]) (pl := [(0, 1), (1, 3), (4, 1), (5, 1), (6, 1), (7, 1), (8, 1), (9, 2), (11, 1)]) (z := [.int .i8 0, .int .i64 0, .int .i64 0, .int .i64 0, .bool false, .slice none 0 0, .int .i64 0, .int .i64 0, .int .i64 0, .int .i64 0, .int .i64 0, .int .i64 0]) (cs := [_, _, _, _, _, _, _, _, _, _, _, _]) S (by kernel_rfl) rfl (rfl)) ?_; clear S a; intro a S
 refine qG [1] S ?_; clear S a; intro a S
 refine qC (xs := [.tmp 29, .tmp 32, .tmp 33]) S (qE Tryz.func33) rfl (keepS_any (A := [_] ++ A) (N := N) (r3 nm y) none 0 [] y (ShM.close (P := [_]) hE hBk M) hI (by show (0 : Int) ≤ _; omega) (fun W M9 => Rd.nil 0 _ _ 9) (by decide) (by unfold takes; rw [hm]; rfl) hm (by omega)) ?_
 rintro _ w4 ⟨rfl, hC⟩; refine ⟨_, rfl, ?_⟩; clear S M a; intro a S
 have M := Mem.start w4
 refine qG [1] S ?_; clear S a; intro a S
 refine nxC (wp_ret (end_one S rfl (res_tmp rfl) ?_))
 exact ⟨0, rfl, .inl ⟨rfl, ⟨kk, hf⟩, hC.drop⟩⟩
end Go.Proofs.YtndabhdepjnbcaaGreat

namespace Go.Proofs.YtndabhdepjnbcaaGreat
open Go.RowKit Go.Sort
def OpenF (wc : World) (A E : List Ent) (S0 : DS) (x : Su) (l0 : Rl) (e : Ending) (w' : World) : Prop :=
 ∃ (s : St) (ps : Pl) (da : Option Addr) (dc lo hi : Nat) (cs : List Value) (es : List Ent), e = .returned (.tuple #[.agg (s.cellsL (.slice da ps.length dc)).toArray, .int .i64 0]) ∧
  Mem wc w' (rowE lo hi 75 6 (.slice da ps.length dc) ps.length cs :: (es ++ (A ++ E))) ∧ PrBk cs ps es ∧ s.ok ∧ ps.length ≤ 24 ∧ foldS (stSu x x.tail (scanG S0 x.tail).next) [] l0 = (s, ps)
set_option maxHeartbeats 4000000 in
set_option maxRecDepth 10000 in
theorem openF_any {wc w : World} {A E : List Ent} {b : Nat} {S0 : DS} (x : Su) (l0 : Rl) (hE : DkE b S0 E) (M : Mem wc w (A ++ E)) (hup : S0.down = false) (hw : ∀ k, (S0.cache k).length ≤ 1000000) (hz : ∀ k, k < 8 → zerosB (S0.get (26 + k)) = true) (hg : gsR (secD S0) = (x, 0)) (hrec : Recs l0 ((scanG S0 x.tail).l.map (·.2))) :
 Calls Tryz.prog 26 #[.pointer (some ⟨b, 0, none⟩)] w (OpenF wc A E S0 x l0) := by
 refine calls_enter Tryz.func26 rfl 92 rfl rfl ?_; intro a S
 refine nxD (st_alloc S M rfl rfl (zSt.cellsL (.slice none 0 0)).toArray (by kernel_rfl) ?_); clear S M a; intro a w1 bZ S M hB
 refine qG [1] S ?_; clear S a; intro a S
 refine nxC (wp_seq (nxD (qG [1] S ?_))); clear S a; intro a S
 refine qY S (y_eqlPS (by kernel_rfl) S rfl) ?_; clear S a; intro a S
 refine nxC (st_condF S rfl (wp_skip (nxE (qG [1] S ?_)))); clear S a; intro a S
 refine qC (xs := [.tmp 20]) S (qE Tryz.func27) rfl (getH_any (A := _ :: A) hE M hup hw) ?_
 rintro _ w2 ⟨rfl, M1⟩; refine ⟨_, rfl, ?_⟩; clear S M a; intro a S; have M := M1; clear M1
 simp only [List.cons_append] at M
 rw [hg] at S
 refine qG [1, 1, 1] S ?_; clear S a; intro a S
 refine st_alloc S M rfl rfl #[.int .i64 0, .int .i64 0, .int .i64 0, .int .i64 0, .int .i64 0, .int .i64 0, .int .i64 0, .int .i64 0, .int .i64 0, .int .i64 0, .int .i64 0, .int .i64 0, .int .i64 0] (by kernel_rfl) ?_; clear S M a; intro a w3 bU S M hB
 refine qS (sz := 13) (us := [_, _, _, _, _, _, _, _, _, _, _, _, _]) S M 0 ?_; clear M; intro w4 M
 refine qG [1] S ?_; clear S a; intro a S
 refine nxC (wp_seq (nxD (qG [1, 1] S ?_))); clear S a; intro a S
 refine nxC (st_if (t := 25) S rfl ?_ ?_)
 ·clear S; intro h25 S
  exact absurd rfl h25
 clear S; intro h25 S
 refine st_condF S rfl (wp_skip (nxE (qY S (y_loadAgg (cs := [_, _, _, _, _, _, _, _, _, _, _, _, _]) S (by kernel_rfl) rfl rfl (M.cellsAt (k := 13) 0 rfl rfl)) ?_))); clear S a; intro a S
 refine qY S (y_build (ps := [(0, .tmp 28)]) (pl := [(0, 13), (13, 2), (15, 256), (271, 1), (272, 1)]) (z := zSt.cellsL (.slice none 0 0)) (cs := (stSu x 0 0).cellsL (.slice none 0 0)) S (by kernel_rfl) rfl ((fillL_one (us := x.cellsL) (off := 0) (sz := 13) rfl rfl rfl (by rw [St.len zSt_ok]; exact (by decide : 0 + 13 ≤ 273))).trans (by rw [stSu_fill]))) ?_; clear S a; intro a S
 refine st_alloc S M rfl rfl (zSt.cellsL (.slice none 0 0)).toArray (by kernel_rfl) ?_; clear S M a; intro a w5 bX S M hB
 refine st_storeAll (sz := 273) S M 0 rfl (by kernel_rfl) rfl rfl (by with_reducible first | exact St.len zSt_ok _ | exact St.len (stSu_ok _ _ _) _ | exact St.len hs _ | exact St.len hs2 _) (by with_reducible first | exact St.one zSt_ok _ rfl | exact St.one (stSu_ok _ _ _) _ rfl | exact St.one hs _ rfl | exact St.one hs2 _ rfl) rfl (by with_reducible first | exact St.len zSt_ok _ | exact St.len (stSu_ok _ _ _) _ | exact St.len hs _ | exact St.len hs2 _) ?_; clear M; intro w6 M
 simp only [List.set_cons_zero, List.set_cons_succ] at M
 refine nxC (wp_seq (nxD (qG [1] S ?_))); clear S a; intro a S
 refine nxC (wp_block (wp_loop_g (fun m a w' => ∃ (k : Nat), k ≤ 8 ∧ m = 8 - k ∧ Sees 92 a [(0, .pointer (some ⟨b, 0, none⟩)), (2, .pointer (some ⟨bZ, 0, none⟩)), (4, .pointer (some ⟨bU, 0, none⟩)), (6, .pointer (some ⟨bX, 0, none⟩)), (30, .int .i64 (k : Int))] ∧ Mem wc w' (.blk bX ((stSu x 0 0).cellsL (.slice none 0 0)).toArray 57 :: .blk bU x.cellsL.toArray 49 :: .blk bZ (zSt.cellsL (.slice none 0 0)).toArray 57 :: (A ++ E))) (8) ?_ ?_))
 ·skip
  exact ⟨0, by omega, rfl, S.sub _ rfl, M⟩
 clear S M a; intro m a wl
 rintro ⟨k, hk, rfl, S, M⟩
 refine nxD (qG [1] S ?_); clear S a; intro a S
 refine nxC (wp_seq (st_if (t := 31) S rfl ?_ ?_))
 ·clear S; intro h31 S
  refine st_condT S rfl (wp_skip (then_normal (wp_seq (wp_block (nxD (qG [1, 1] S ?_)))))); clear S a; intro a S
  refine nxA (qG [1, 1] S ?_); clear S a; intro a S
  refine qC (xs := [.tmp 34, .tmp 35]) S (qE Tryz.func38) rfl (getZ_any (A := _ :: _ :: _ :: A) k hE M hup hw (by omega) (hz k (by omega))) ?_
  rintro _ w7 ⟨bN, rfl, M1⟩; refine ⟨_, rfl, ?_⟩; clear S M a; intro a S; have M := M1; clear M1
  simp only [List.cons_append] at M
  refine qG [1, 1, 1, 1, 1] S ?_; clear S a; intro a S
  refine nxC (wp_seq (nxD (qG [1, 1] S ?_))); clear S a; intro a S
  refine nxC (st_if (t := 40) S rfl ?_ ?_)
  ·clear S; intro h40 S
   exact absurd rfl h40
  clear S; intro h40 S
  refine st_condF S rfl (wp_skip (nxF (qG [16, 1] S ?_))); clear S a; intro a S
  (first | refine qY S (y_mulN S rfl rfl (by omega)) ?_ | refine qY S (y_int S rfl rfl rfl) ?_); clear S a; intro a S
  refine qG [1] S ?_; clear S a; intro a S
  (first | refine qY S (y_addN S rfl rfl (by omega)) ?_ | refine qY S (y_int S rfl rfl rfl) ?_); clear S a; intro a S
  (first | refine qY S (y_mulN S rfl rfl (by omega)) ?_ | refine qY S (y_int S rfl rfl rfl) ?_); clear S a; intro a S
  refine qY S (y_sliceA2 (m := 32) (sz := 8) S (by kernel_rfl) rfl rfl rfl (by first | omega | (simp; done) | (simp; omega))) ?_; clear S a; intro a S
  refine qG [1] S ?_; clear S a; intro a S
  refine st_copyN (e := 53) (sz := 8) (us := zVs) S M 1 rfl rfl (by kernel_rfl) rfl rfl rfl (M.cellsAt (k := 32) 0 rfl rfl) (by rw [show zVs.length = 32 from rfl]; simp only [Nat.min_def]; split <;> omega) (by kernel_rfl) (by rw [St.len (stSu_ok _ _ _), show zVs.length = 32 from rfl]; exact (show 0 + 15 + ((k : Int) * 4).toNat * 8 + 32 ≤ 273 by omega)) ?_
  clear S M a; intro a wy S M
  rw [show 0 + 15 + ((k : Int) * 4).toNat * 8 = 15 + k * 32 by omega] at M
  simp only [List.set_cons_zero, List.set_cons_succ] at M
  replace S := S.keep [0, 2, 4, 6, 30, 31, 7, 8, 9, 40]
  refine wpList_nil (block_normal (nxF ?_))
  (first | refine qY S (y_addN S rfl rfl (by omega)) ?_ | refine qY S (y_int S rfl rfl rfl) ?_); clear S a; intro a S
  refine qG [1] S ?_; clear S a; intro a S
  refine nxC ?_
  skip
  replace M := M.drop 0
  simp only [List.eraseIdx_cons_succ, List.eraseIdx_cons_zero] at M
  refine ⟨8 - (k + 1), by omega, k + 1, by omega, rfl, S.sub _ rfl, ?_⟩
  have e : ((stSu x 0 0).cellsL (.slice none 0 0)).take (15 + k * 32) ++ zVs ++ ((stSu x 0 0).cellsL (.slice none 0 0)).drop (15 + k * 32 + zVs.length) = (stSu x 0 0).cellsL (.slice none 0 0) := stSu_zero x 0 0 _ (by omega)
  rw [← e]
  exact M
 clear S; intro h31 S
 refine st_condF S rfl (wp_exit (then_exit (then_exit (block_hit (then_normal (wp_seq ?_))))))
 have htl := gsR_tail hg
 obtain ⟨sc, hsc⟩ : ∃ sc, scanG S0 x.tail = sc := ⟨_, rfl⟩
 refine wp_region_lit (qR [1, 2, 2] S M ?_); clear S a; intro a S
 refine qC (xs := [.tmp 54, .tmp 56]) S (qE Tryz.func39) rfl (Scan_anyG (A := _ :: _ :: _ :: A) x.tail hE M hup hw htl) ?_
 rintro _ w8 ⟨rs, ra, rc, rlo, rhi, rfl, hrs, h90, h24, M1⟩; refine ⟨_, rfl, ?_⟩; clear S M a; intro a S
 have M := M1.perm (perm_r1 (es := rs.map RB.ent))
 simp only [List.append_eq] at M
 clear M1
 rw [hsc] at hrs S
 refine qG [1, 1, 1, 1] S ?_; clear S a; intro a S
 refine st_alloc S M rfl rfl #[.int .i64 0, .int .i64 0] (by kernel_rfl) ?_; clear S M a; intro a w9 bL S M hB
 refine qG [1] S ?_; clear S a; intro a S
 refine qS (sz := 2) (us := [_, _]) S M 0 ?_; clear M; intro w10 M
 refine qG [1] S ?_; clear S a; intro a S
 refine nxC (wp_seq (nxD (qG [1, 1] S ?_))); clear S a; intro a S
 refine nxC (st_if (t := 62) S rfl ?_ ?_)
 ·clear S; intro h62 S
  exact absurd rfl h62
 clear S; intro h62 S
 refine st_condF S rfl (wp_skip (nxE (qY S (y_loadAgg (cs := [_, _]) S (by kernel_rfl) rfl rfl (M.cellsAt (k := 2) 0 rfl rfl)) ?_))); clear S a; intro a S
 refine qG [14] S ?_; clear S a; intro a S
 refine st_store (sz := 2) (us := [_, _]) S M 1 rfl (by kernel_rfl) rfl rfl rfl rfl rfl rfl (by rw [St.len (stSu_ok _ _ _)]; exact (by decide : 15 ≤ 273)) ?_; clear M; intro w11 M
 simp only [putL, List.set_cons_zero, List.set_cons_succ, Nat.reduceAdd] at M
 refine nxC (wp_seq (wp_seq ?_))
 rw [stSu_log] at M
 replace M := M.drop 0
 simp only [List.eraseIdx_cons_succ, List.eraseIdx_cons_zero] at M
 replace M := M.drop 1
 simp only [List.eraseIdx_cons_succ, List.eraseIdx_cons_zero] at M
 obtain ⟨dlo, dhi, M1⟩ := M.nilRow 75 6
 clear M
 obtain ⟨F0, hF0⟩ : ∃ F0, F0 = rowE rlo rhi 101 1 (.slice ra rs.length rc) rs.length (rs.map RB.val) :: (rs.map RB.ent ++ (A ++ E)) := ⟨_, rfl⟩
 have hRow : rowE rlo rhi 101 1 (.slice ra rs.length rc) rs.length (rs.map RB.val) ∈ F0 := by rw [hF0]; exact List.mem_cons_self ..
 have hEnt : ∀ r ∈ rs, r.ent ∈ F0 := fun r hr => by rw [hF0]; exact List.mem_cons_of_mem _ (List.mem_append_left _ (List.mem_map_of_mem hr))
 have hSub : (A ++ E).Sublist F0 := by rw [hF0]; exact .cons _ (List.sublist_append_right _ _)
 rw [← hF0] at M1
 have M : Mem wc w11 (.blk bX ((stSu x x.tail sc.next).cellsL (.slice none ([] : Pl).length 0)).toArray 57 :: .blk bZ (zSt.cellsL (.slice none 0 0)).toArray 57 :: rowE dlo dhi 75 6 (.slice none ([] : Pl).length 0) ([] : Pl).length [] :: ([] ++ F0)) := M1.perm (List.perm_middle (l₁ := [_, _])).symm
 clear M1 hF0
 have hle : rs.length ≤ 24 := h24
 have hll : l0.length = rs.length := by rw [hrec.len, hsc, ← hrs, List.length_map]
 refine wp_region_lit (qG [1] S ?_); clear S a; intro a S
 refine qY S (y_lenS (E := 101) S rfl (by kernel_rfl)) ?_; clear S a; intro a S
 refine qG [1] S ?_; clear S a; intro a S
 refine nxC (wp_block (wp_loop_g (fun m a w' => ∃ (k : Nat) (s : St) (ps : Pl) (da : Option Addr) (dc dlo dhi : Nat) (cs : List Value) (es : List Ent), k ≤ rs.length ∧ m = rs.length - k ∧ s.ok ∧ ps.length ≤ k ∧ foldS (stSu x x.tail sc.next) [] (l0.take k) = (s, ps) ∧ PrBk cs ps es ∧ Sees 92 a [(2, .pointer (some ⟨bZ, 0, none⟩)), (6, .pointer (some ⟨bX, 0, none⟩)), (67, .slice ra rs.length rc), (68, .int .i64 (rs.length : Int)), (69, .int .i64 (k : Int))] ∧ Mem wc w' (.blk bX (s.cellsL (.slice da ps.length dc)).toArray 57 :: .blk bZ (zSt.cellsL (.slice none 0 0)).toArray 57 :: rowE dlo dhi 75 6 (.slice da ps.length dc) ps.length cs :: (es ++ F0))) (rs.length) ?_ ?_))
 ·skip
  exact ⟨0, stSu x x.tail sc.next, [], none, 0, dlo, dhi, [], [], Nat.zero_le _, rfl, stSu_ok _ _ _, Nat.le_refl _, rfl, PrBk.nil', S.sub _ rfl, M⟩
 clear S M a; intro m a wl
 rintro ⟨k, s, ps, da, dc, dlo, dhi, cs, es, hk, rfl, hs, hpl, hfo, hBk, S, M⟩
 have hSub2 : (A ++ E).Sublist (es ++ F0) := hSub.trans (List.sublist_append_right _ _)
 refine nxD (qG [1] S ?_); clear S a; intro a S
 refine nxC (wp_seq (st_fi (t := 70) S rfl ?_ ?_))
 ·clear S; intro h70 S
  refine st_condF S rfl (wp_exit (then_exit (then_exit (block_hit (then_normal (wp_seq ?_))))))
  obtain rfl : k = rs.length := by omega
  rw [List.take_of_length_le (by omega)] at hfo
  refine wp_region_lit (qY S (y_loadAgg (k := 273) (cs := _) S (by kernel_rfl) rfl (by with_reducible first | exact St.len zSt_ok _ | exact St.len (stSu_ok _ _ _) _ | exact St.len hs _ | exact St.len hs2 _) (M.cellsAt 0 rfl cutL_all)) ?_); clear S a; intro a S
  refine st_storeAll (sz := 273) S M 1 rfl (by kernel_rfl) rfl rfl (by with_reducible first | exact St.len zSt_ok _ | exact St.len (stSu_ok _ _ _) _ | exact St.len hs _ | exact St.len hs2 _) (by with_reducible first | exact St.one zSt_ok _ rfl | exact St.one (stSu_ok _ _ _) _ rfl | exact St.one hs _ rfl | exact St.one hs2 _ rfl) rfl (by with_reducible first | exact St.len zSt_ok _ | exact St.len (stSu_ok _ _ _) _ | exact St.len hs _ | exact St.len hs2 _) ?_; clear M; intro w17 M
  simp only [List.set_cons_zero, List.set_cons_succ] at M
  refine qG [1] S ?_; clear S a; intro a S
  refine nxC (wp_ret (end_two S rfl (res_agg (k := 273) (cs := _) (by kernel_rfl) rfl (by with_reducible first | exact St.len zSt_ok _ | exact St.len (stSu_ok _ _ _) _ | exact St.len hs _ | exact St.len hs2 _) (M.cellsAt 1 rfl cutL_all)) (res_tmp rfl) ?_))
  exact ⟨s, ps, da, dc, dlo, dhi, cs, es, rfl, M.sub (.cons _ (.cons _ (.cons_cons _ ((List.Sublist.refl es).append hSub)))), hBk, hs, by omega, by rw [hsc]; exact hfo⟩
 clear S; intro h70 S
 refine st_condT S rfl (wp_skip (then_normal (wp_seq (wp_block (wp_seq ?_)))))
 have hkl : k < rs.length := by omega
 obtain ⟨r, hr⟩ : ∃ r, rs[k]? = some r := ⟨_, List.getElem?_eq_getElem hkl⟩
 have hrm := List.mem_of_getElem? hr
 have hr90 := h90 r hrm
 obtain ⟨p, hp⟩ : ∃ p, l0[k]? = some p := ⟨_, List.getElem?_eq_getElem (by omega)⟩
 have hpr := hrec.get k p r.bs hp (by rw [hsc, ← hrs, List.getElem?_map, hr]; rfl)
 have hpm : p.1.may p.2 = true := by
  have h2 := hpr.2
  unfold takes at h2
  cases h3 : p.1.may p.2 with
  | true => rfl
  | false => rw [h3] at h2; cases h2
 refine wp_region_lit (qY S (y_indexR (e := 101) (sz := 1) S (by kernel_rfl) rfl ((M.readIn (.tail _ (.tail _ (.tail _ (List.mem_append_right _ hRow)))) (by unfold maxLen; omega))) rfl (by first | omega | (simp; done) | (simp; omega))) ?_); clear S a; intro a S
 try simp only [Int.toNat_natCast, Nat.mul_one, Nat.zero_add] at S
 refine qY S (y_load S (by kernel_rfl) rfl ((M.readIn (.tail _ (.tail _ (.tail _ (List.mem_append_right _ hRow)))) (by unfold maxLen; omega)).at_.one k (by rw [List.getElem?_map, hr]; rfl))) ?_; clear S a; intro a S
 refine qG [1] S ?_; clear S a; intro a S
 refine nxA (qG [1] S ?_); clear S a; intro a S
 refine qC (xs := [.tmp 74]) S (qE Tryz.func40) rfl (readR_any r.val r.bs _ (M.readIn (.tail _ (.tail _ (.tail _ (List.mem_append_right _ (hEnt r hrm))))) (by unfold maxLen; omega))) ?_
 rintro _ w12 hP; obtain ⟨q, wx, wa, wcp, c, rfl, hF, h8, hs31, hcc⟩ := ReadRP.form hP; refine ⟨_, rfl, ?_⟩; clear S a; intro a S
 obtain ⟨wlo, whi, -, M1⟩ := M.pushFresh hF
 clear M hP hF
 have M := M1
 clear M1
 obtain ⟨rfl, rfl, rfl⟩ : c = 0 ∧ q = p.1 ∧ wx = p.2 := by
  rcases hcc with ⟨h1, h2, h3⟩ | ⟨-, -, -, h4⟩
  ·have := enc_inj h2 hpm (rest := []) (by rw [h3, hpr.1, List.append_nil])
   exact ⟨h1, this.1, this.2.1⟩
  ·exact absurd hpr.1 (h4 _ _ hpm)
 refine qG [1, 1, 1] S ?_; clear S a; intro a S
 refine st_alloc S M rfl rfl #[.int .i8 0, .int .i64 0, .int .i64 0, .int .i64 0, .bool false, .slice none 0 0, .int .i64 0, .int .i64 0, .int .i64 0, .int .i64 0, .int .i64 0, .int .i64 0] (by kernel_rfl) ?_; clear S M a; intro a w13 bY S M hB
 refine qS (sz := 12) (us := [_, _, _, _, _, _, _, _, _, _, _, _]) S M 0 ?_; clear M; intro w14 M
 refine qG [1] S ?_; clear S a; intro a S
 refine nxC (wp_seq (nxD (qG [1, 1] S ?_))); clear S a; intro a S
 refine nxC (st_if (t := 79) S rfl ?_ ?_)
 ·clear S; intro h79 S
  exact absurd rfl h79
 clear S; intro h79 S
 refine st_condF S rfl (wp_skip (nxE (qY S (y_loadAgg (k := 273) (cs := _) S (by kernel_rfl) rfl (by with_reducible first | exact St.len zSt_ok _ | exact St.len (stSu_ok _ _ _) _ | exact St.len hs _ | exact St.len hs2 _) (M.cellsAt 2 rfl cutL_all)) ?_))); clear S a; intro a S
 refine qY S (y_loadAgg (cs := [_, _, _, _, _, _, _, _, _, _, _, _]) S (by kernel_rfl) rfl rfl (M.cellsAt (k := 12) 0 rfl rfl)) ?_; clear S a; intro a S
 refine qC (xs := [.tmp 82, .tmp 83]) S (qE Tryz.func41) rfl (apply_any s hs _ cs ps _ ((hBk.prs M (List.mem_of_getElem? (show _[4]? = _ from rfl)) (fun e he => by simp [he]) (by unfold maxLen; omega)).wide (Nat.zero_le _) (Nat.le_refl _)) (by omega) hBk.short p.1 wa wcp p.2 (M.readAll 1 rfl (by unfold maxLen; omega)) (by omega) (by omega)) ?_
 rintro _ w15 hA; obtain ⟨s2, ps2, c2, da2, dc2, lo2, hi2, cs2, es2, rfl, hs2, M2, hBk2, hc2⟩ := apply_form hA (by omega); refine ⟨_, rfl, ?_⟩; clear S a hA; intro a S; have hK := M2.below
 obtain ⟨rfl, rfl, rfl⟩ : c2 = 0 ∧ s2 = appSt s ps p.1 p.2 ∧ ps2 = (stepO ps p.1 p.2).1 := by
  rcases hc2 with ⟨-, h1, h2, h3⟩ | ⟨h1, -⟩
  ·exact ⟨h1, h2, h3⟩
  ·rw [hpr.2] at h1; cases h1
 replace M := (M.join M2).perm perm_r5
 clear M2
 refine qG [1, 1, 1] S ?_; clear S a; intro a S
 refine st_storeAll (sz := 273) S M 2 rfl (by kernel_rfl) rfl rfl (by with_reducible first | exact St.len zSt_ok _ | exact St.len (stSu_ok _ _ _) _ | exact St.len hs _ | exact St.len hs2 _) (by with_reducible first | exact St.one zSt_ok _ rfl | exact St.one (stSu_ok _ _ _) _ rfl | exact St.one hs _ rfl | exact St.one hs2 _ rfl) rfl (by with_reducible first | exact St.len zSt_ok _ | exact St.len (stSu_ok _ _ _) _ | exact St.len hs _ | exact St.len hs2 _) ?_; clear M; intro w16 M
 simp only [List.set_cons_zero, List.set_cons_succ] at M
 refine qG [1] S ?_; clear S a; intro a S
 replace S := S.keep [2, 6, 67, 68, 69, 70, 13, 14, 79, 15]
 refine nxA (qG [1, 1] S ?_); clear S a; intro a S
 refine nxC (st_if (t := 88) S rfl ?_ ?_)
 ·clear S; intro h88 S
  exact absurd rfl h88
 clear S; intro h88 S
 refine st_condF S rfl (wp_skip (block_normal (nxF ?_)))
 (first | refine qY S (y_addN S rfl rfl (by omega)) ?_ | refine qY S (y_int S rfl rfl rfl) ?_); clear S a; intro a S
 refine qG [1] S ?_; clear S a; intro a S
 refine nxC ?_
 skip
 have hsl := stepP_len ps p.1 p.2
 replace M := M.drop 0
 simp only [List.eraseIdx_cons_succ, List.eraseIdx_cons_zero] at M
 replace M := M.drop 0
 simp only [List.eraseIdx_cons_succ, List.eraseIdx_cons_zero] at M
 replace M := M.drop 2
 simp only [List.eraseIdx_cons_succ, List.eraseIdx_cons_zero] at M
 exact ⟨rs.length - (k + 1), by omega, k + 1, _, _, da2, dc2, lo2, hi2, cs2, es2, by omega, rfl, hs2, by omega, by rw [List.take_add_one, hp, show (some p).toList = [p] from rfl, foldS_snoc, hfo], hBk2, S.sub _ rfl, M.sub (.cons_cons _ (.cons_cons _ (.cons_cons _ ((List.Sublist.refl es2).append (List.sublist_append_right es F0)))))⟩
theorem gs_new : gsR (secD DS.new) = (suFirst, 0) := by
 have hz : ∀ k, k < 2 → zerosB (secD DS.new k) = true := fun k hk => by
  have e : k = 0 ∨ k = 1 := by omega
  rcases e with rfl | rfl <;> decide +kernel
 have hl : ∀ k, k < 2 → (secD DS.new k).length = 64 := fun k hk => by
  have e : k = 0 ∨ k = 1 := by omega
  rcases e with rfl | rfl <;> decide +kernel
 have hb : bestN (secD DS.new) 2 = none := by
  rw [bestH_zero (hz 1 (by omega)) (hl 1 (by omega)), bestH_zero (hz 0 (by omega)) (hl 0 (by omega))]; rfl
 unfold gsR
 rw [hb, hz 0 (by omega), hz 1 (by omega)]; rfl
theorem scan_new : (scanG DS.new 1).l = [] ∧ (scanG DS.new 1).next = 1 := by
 rw [scanG_eq DS.new (by omega)]
 have hend : Ends 1 0 (secsOf DS.new 1) := fun y r hy f ld hf => by
  have h1 : (secsOf DS.new 1)[0]? = some y := by rw [hy]; rfl
  rw [secsOf_get DS.new 1 (by omega), secAt_new] at h1
  rw [← Option.some.inj h1, readF_zero] at hf; cases hf
 exact scan_end (nx := 1) (l := []) hend
theorem home_new (k : Nat) (h : k < 8) : zerosB (DS.new.get (26 + k)) = true := by
 have e : k = 0 ∨ k = 1 ∨ k = 2 ∨ k = 3 ∨ k = 4 ∨ k = 5 ∨ k = 6 ∨ k = 7 := by omega
 rcases e with rfl | rfl | rfl | rfl | rfl | rfl | rfl | rfl <;> decide +kernel
end Go.Proofs.YtndabhdepjnbcaaGreat

namespace Go.Proofs.YtndabhdepjnbcaaGreat
open Go.RowKit Go.Sort
theorem write_leS {S0 : DS} (hw : ∀ k, (S0.cache k).length ≤ 1000) (k : Int) (bs : List UInt8) (j : Int) : ((S0.write k bs).cache j).length ≤ 1000000 := by have := write_cache_le (k := k) (bs := bs) hw j; omega
theorem fillL_cons {pl : Nat → Option (Nat × Nat)} {l us : List Value} {i off sz : Nat} {v : Value} {r : List (Nat × Value)} (hp : pl i = some (off, sz)) (hu : v.cells.toList = us) (hsz : us.length = sz) (hle : off + sz ≤ l.length) : fillL pl l ((i, v) :: r) = fillL pl (putL l off us) r := by
 subst hu
 rw [fillL]
 simp only [hp]
 have h1 : Nat.beq v.cells.toList.length sz = true := by rw [hsz]; exact Nat.beq_refl sz
 have h2 : Nat.ble (off + sz) l.length = true := Nat.ble_eq_true_of_le hle
 rw [h1, h2]; rfl
abbrev zShC : List Value := [.pointer none] ++ (zSt.cellsL (.slice none 0 0) ++ [])
theorem zShC_len : zShC.length = 274 := by
 unfold zShC; rw [List.length_append, List.length_append, St.len zSt_ok]; rfl
theorem fill_sh (bd : Nat) (s : Sh) (dv : Value) (hl : s.h.length = 32) : fillL (fun i => [(0, 1), (1, 273)][i]?) zShC [(0, pB bd), (1, .agg (s.st.cellsL dv).toArray)] = some (shC bd s dv) := by
 have l1 : (s.st.cellsL dv).length = 273 := St.len (stX_ok _ _ _ _ hl) _
 have e0 : putL zShC 0 [pB bd] = [pB bd] ++ (zSt.cellsL (.slice none 0 0) ++ []) := rfl
 rw [fillL_cons (us := [pB bd]) (off := 0) (sz := 1) rfl rfl rfl (by rw [zShC_len]; omega), e0, fillL_one (us := s.st.cellsL dv) (off := 1) (sz := 273) rfl rfl l1 (by rw [List.length_append, List.length_append, St.len zSt_ok]; exact Nat.le_refl _)]
 congr 1
 rw [putL_eq _ _ _ (by rw [List.length_append, List.length_append, St.len zSt_ok, l1]; exact Nat.le_refl _), l1, List.drop_of_length_le (by rw [List.length_append, List.length_append, St.len zSt_ok]; exact Nat.le_refl _)]
 unfold shC
 rw [List.append_nil, List.append_nil, List.append_nil]; rfl
def sh0 : Sh := ⟨suFirst, 1, 1, List.replicate 32 zV8, 0, []⟩
set_option maxHeartbeats 1000000 in
set_option maxRecDepth 10000 in
theorem shOpen0_any {wc w : World} {A E : List Ent} {bd : Nat} (hE : DkE bd DS.new E) (M : Mem wc w (A ++ E)) :
 Calls Tryz.prog 9 #[pB bd] w fun e w' => ∃ b, e = .returned (.tuple #[pB b, .int .i64 0]) ∧ ShM wc w' A b bd sh0 DS.new := by
 have hok : sh0.st.ok := stX_ok _ _ _ _ rfl
 refine calls_enter Tryz.func9 rfl 20 rfl rfl ?_; intro a S
 refine nxD (qG [1, 1] S ?_); clear S a; intro a S
 refine nxC (wp_seq (nxD (qG [1] S ?_))); clear S a; intro a S
 refine qY S (y_eqlPS (by kernel_rfl) S rfl) ?_; clear S a; intro a S
 refine nxC (st_condF S rfl (wp_skip (nxE (qG [1] S ?_)))); clear S a; intro a S
 refine qC (xs := [.tmp 9]) S (qE Tryz.func26) rfl (openF_any suFirst [] hE M rfl (fun k => Nat.zero_le _) home_new gs_new (by rw [show suFirst.tail = 1 from rfl, scan_new.1]; exact Recs.nil)) ?_
 rintro _ w1 ⟨s2, ps2, da, dc, lo, hi, cs, es, rfl, M1, hBk, hs2, hp2, hfo⟩; refine ⟨_, rfl, ?_⟩; clear S M a; intro a S; have M := M1; clear M1
 obtain ⟨rfl, rfl⟩ : s2 = sh0.st ∧ ps2 = [] := by
  rw [show suFirst.tail = 1 from rfl, scan_new.2] at hfo
  exact ⟨(congrArg Prod.fst hfo).symm, (congrArg Prod.snd hfo).symm⟩
 refine qG [1, 1, 1] S ?_; clear S a; intro a S
 refine st_alloc S M rfl rfl (zSt.cellsL (.slice none 0 0)).toArray (by kernel_rfl) ?_; clear S M a; intro a w2 bW S M hB
 refine st_storeAll (sz := 273) S M 0 rfl (by kernel_rfl) rfl rfl (by with_reducible first | exact St.len hok _ | exact St.len zSt_ok _ | exact shC_len (s := sh0) rfl | exact zShC_len) (by with_reducible first | exact St.one hok _ rfl | exact St.one zSt_ok _ rfl) rfl (by with_reducible first | exact St.len hok _ | exact St.len zSt_ok _ | exact shC_len (s := sh0) rfl | exact zShC_len) ?_; clear M; intro w3 M
 simp only [List.set_cons_zero, List.set_cons_succ] at M
 refine qG [1] S ?_; clear S a; intro a S
 refine nxC (wp_seq (nxD (qG [1, 1] S ?_))); clear S a; intro a S
 refine nxC (st_if (t := 14) S rfl ?_ ?_)
 ·clear S; intro h14 S
  exact absurd rfl h14
 clear S; intro h14 S
 refine st_condF S rfl (wp_skip (nxE (qG [1] S ?_))); clear S a; intro a S
 refine qY S (y_loadAgg (k := 273) (cs := _) S (by kernel_rfl) rfl (by with_reducible first | exact St.len hok _ | exact St.len zSt_ok _ | exact shC_len (s := sh0) rfl | exact zShC_len) (M.cellsAt 0 rfl cutL_all)) ?_; clear S a; intro a S
 refine qY S (y_build (ps := [(0, .tmp 16), (1, .tmp 17)]) (pl := [(0, 1), (1, 273)]) (z := zShC) (cs := shC bd sh0 (.slice da ([] : Pl).length dc)) S (by kernel_rfl) rfl (fill_sh bd sh0 _ rfl)) ?_; clear S a; intro a S
 refine st_box S M rfl rfl rfl _ rfl ?_; clear S M a; intro a w4 bX S M hB
 refine qG [1, 1] S ?_; clear S a; intro a S
 refine nxC (wp_ret (end_two S rfl (res_tmp rfl) (res_tmp rfl) ?_))
 skip
 replace M := M.drop 1
 simp only [List.eraseIdx_cons_succ, List.eraseIdx_cons_zero] at M
 exact ⟨bX, rfl, da, dc, lo, hi, cs, es, E, hE, hBk, M⟩
set_option maxHeartbeats 1000000 in
theorem superS_any {wc w : World} {A E es : List Ent} {b bd bO lo hi dc : Nat} {s : Sh} {S0 : DS} {da : Option Addr} {cs : List Value} (y : Su) (hE : DkE bd S0 E)
 (M : Mem wc w (.blk bO y.cellsL.toArray 49 :: shE b bd s (.slice da s.ps.length dc) :: rowE lo hi 75 6 (.slice da s.ps.length dc) s.ps.length cs :: (es ++ (A ++ E)))) (hup : S0.down = false) (hw : ∀ k, (S0.cache k).length ≤ 1000) (hm : ({ y with gen := y.gen + 1 } : Su).may) (hg : 0 ≤ y.gen) :
 Calls Tryz.prog 28 #[pB b, pB bO] w fun e w' => e = .returned (.int .i64 0) ∧ ∃ E', DkE bd (S0.write ((y.gen + 1) % 2) (supS { y with gen := y.gen + 1 })).flush E' ∧ Mem wc w' (.blk bO ({ y with gen := y.gen + 1 } : Su).cellsL.toArray 49 :: shE b bd s (.slice da s.ps.length dc) :: rowE lo hi 75 6 (.slice da s.ps.length dc) s.ps.length cs :: (es ++ (A ++ E'))) := by
 have hgm : y.gen + 1 ≤ 1099511627776 := hm.2.2.1
 refine calls_enter Tryz.func28 rfl 34 rfl rfl ?_; intro a S
 refine wp_seq ?_
 skip
 refine wp_region_lit (qG [1] S ?_); clear S a; intro a S
 refine nxC (wp_seq (nxD (qR [1, 1, 1, 1, 1] S M ?_))); clear S a; intro a S
 refine nxC (st_if (t := 10) S rfl ?_ ?_)
 ·clear S; intro h10 S
  exfalso; omega
 clear S; intro h10 S
 refine st_condF S rfl (wp_skip (nxE (qR [1, 1, 1, 1] S M ?_))); clear S a; intro a S
 (first | refine qY S (y_addN S rfl rfl (by omega)) ?_ | refine qY S (y_int S rfl rfl rfl) ?_); clear S a; intro a S
 refine qG [1, 1] S ?_; clear S a; intro a S
 refine qS (sz := 1) (us := [_]) S M 0 ?_; clear M; intro w1 M
 refine nxC (wp_seq (wp_seq (wp_regionK [7] #[false, false, false, false, false, false, false, false, false] rfl M (by kernel_rfl) ?_))); clear M; intro w2 M
 refine k_pure 0 S rfl (fun w => y_move S rfl) ?_; clear S a; intro a S
 refine k_pure 1 S rfl (fun w => y_nilCheck S rfl) ?_; clear S a; intro a S
 refine k_pure 2 S rfl (fun w => y_fieldAddr (k := 0) S (by kernel_rfl) rfl) ?_; clear S a; intro a S
 refine k_read 3 S rfl (fun w hW => have M := M.grow hW; y_load S (by kernel_rfl) rfl (M.cell 1 rfl (shC_d _ _ _))) ?_; clear S a; intro a S
 refine k_pure 4 S rfl (fun w => y_move S rfl) ?_; clear S a; intro a S
 refine k_pure 5 S rfl (fun w => y_nilCheck S rfl) ?_; clear S a; intro a S
 refine k_read 6 S rfl (fun w hW => have M := M.grow hW; y_loadAgg (cs := [_, _, _, _, _, _, _, _, _, _, _, _, _]) S (by kernel_rfl) rfl rfl (M.cellsAt (k := 13) 0 rfl rfl)) ?_; clear S a; intro a S
 refine k_one 7 rfl (by kernel_rfl) ?_
 refine qC (xs := [.tmp 21, .tmp 24]) S (qE Tryz.func47) rfl (putSuper_any (A := _ :: _ :: _ :: (es ++ A)) { y with gen := y.gen + 1 } hE (by simpa only [List.cons_append, List.append_assoc] using M) hup hm (fun k => by have := hw k; omega)) ?_
 rintro _ w3 ⟨rfl, E1, hE1, M1⟩; refine ⟨_, rfl, ?_⟩; clear S M a; intro a S; have M := M1; clear M1
 simp only [List.cons_append, List.append_assoc] at M
 refine wpList_nil ?_; refine then_normal ?_; refine ⟨fun h => absurd h (by decide), ?_⟩
 refine k_pure 8 S rfl (fun w => y_assign S rfl) ?_; clear S a; intro a S
 refine k_end (by kernel_rfl) ?_
 replace S := S.keep [0, 1, 4, 10, 5]
 refine nxE (qG [1, 1] S ?_); clear S a; intro a S
 refine nxC (st_if (t := 27) S rfl ?_ ?_)
 ·clear S; intro h27 S
  exact absurd rfl h27
 clear S; intro h27 S
 refine st_condF S rfl (wp_skip (nxE (qG [1, 1, 1] S ?_))); clear S a; intro a S
 refine qY S (y_load S (by kernel_rfl) rfl (M.cell 1 rfl (shC_d _ _ _))) ?_; clear S a; intro a S
 refine qC (xs := [.tmp 32]) S (qE Tryz.func48) rfl (flush_any (A := _ :: _ :: _ :: (es ++ A)) hE1 (by simpa only [List.cons_append, List.append_assoc] using M) hup (write_leS hw _ _)) ?_
 rintro _ w4 ⟨rfl, E2, hE2, M1⟩; refine ⟨_, rfl, ?_⟩; clear S M a; intro a S; have M := M1; clear M1
 simp only [List.cons_append, List.append_assoc] at M
 refine qG [1] S ?_; clear S a; intro a S
 refine nxC (wp_ret (end_one S rfl (res_tmp rfl) ?_))
 exact ⟨rfl, E2, hE2, M⟩
def Sh.begun (s : Sh) (y : Su) : Sh := { s with x := { s.x with inc := s.x.inc + 1, gen := y.gen + 1 } }
def begSu (s : Sh) (y : Su) : Su := { y with inc := s.x.inc + 1, gen := y.gen + 1 }
theorem shC_begun (bd : Nat) (s : Sh) (y : Su) (dv : Value) : ((shC bd s dv).set 4 (.int .i64 (s.x.inc + 1))).set 1 (.int .i64 (y.gen + 1)) = shC bd (s.begun y) dv := rfl
set_option maxHeartbeats 1000000 in
theorem begin11_any {wc w : World} {A : List Ent} {b bd : Nat} {s : Sh} {S0 : DS} (y : Su) (hM : ShM wc w A b bd s S0) (hup : S0.down = false) (hw : ∀ k, (S0.cache k).length ≤ 1000) (hg : gsR (secD S0) = (y, 0)) (hm : (begSu s y).may) (hi : 0 ≤ s.x.inc) (hy : 0 ≤ y.gen) (hl : s.h.length = 32) :
 Calls Tryz.prog 11 #[pB b] w fun e w' => e = .returned (.tuple #[.int .i64 (s.x.inc + 1), .int .i64 0]) ∧ ShM wc w' A b bd (s.begun y) (S0.write ((y.gen + 1) % 2) (supS (begSu s y))).flush := by
 obtain ⟨da, dc, lo, hi9, cs, es, E, hE, hBk, M⟩ := hM
 have him : s.x.inc + 1 ≤ 1048576 := hm.2.2.2.2.2.2.2.2.1
 refine calls_enter Tryz.func11 rfl 56 rfl rfl ?_; intro a S
 refine wp_seq ?_
 skip
 refine wp_region_lit (qG [1, 1] S ?_); clear S a; intro a S
 refine nxC (wp_seq (nxD (qG [1] S ?_))); clear S a; intro a S
 refine qY S (y_eqlPS (by kernel_rfl) S rfl) ?_; clear S a; intro a S
 refine nxC (st_condF S rfl (wp_skip (then_normal (wp_seq (nxD (qG [1, 1, 2, 1, 4] S ?_)))))); clear S a; intro a S
 refine qY S (y_load S (by kernel_rfl) rfl (M.cell 0 rfl (shC_inc _ _ _))) ?_; clear S a; intro a S
 refine qG [1] S ?_; clear S a; intro a S
 refine nxC (st_if (t := 15) S rfl ?_ ?_)
 ·clear S; intro h15 S
  exfalso; omega
 clear S; intro h15 S
 refine st_condF S rfl (wp_skip (nxE (qG [1, 1, 1] S ?_))); clear S a; intro a S
 refine qY S (y_load S (by kernel_rfl) rfl (M.cell 0 rfl (shC_d _ _ _))) ?_; clear S a; intro a S
 refine qC (xs := [.tmp 20]) S (qE Tryz.func27) rfl (getH_any (A := _ :: _ :: (es ++ A)) hE (by simpa only [List.cons_append, List.append_assoc] using M) hup (fun k => by have := hw k; omega)) ?_
 rintro _ w1 ⟨rfl, M1⟩; refine ⟨_, rfl, ?_⟩; clear S M a; intro a S; have M := M1; clear M1
 simp only [List.cons_append, List.append_assoc] at M
 rw [hg] at S
 refine qG [1, 1, 1] S ?_; clear S a; intro a S
 refine st_alloc S M rfl rfl #[.int .i64 0, .int .i64 0, .int .i64 0, .int .i64 0, .int .i64 0, .int .i64 0, .int .i64 0, .int .i64 0, .int .i64 0, .int .i64 0, .int .i64 0, .int .i64 0, .int .i64 0] (by kernel_rfl) ?_; clear S M a; intro a w2 bO S M hB
 refine qS (sz := 13) (us := [_, _, _, _, _, _, _, _, _, _, _, _, _]) S M 0 ?_; clear M; intro w3 M
 refine qG [1] S ?_; clear S a; intro a S
 replace S := S.keep [0, 2, 3, 8, 15, 4, 5]
 refine nxC (wp_seq (nxD (qG [1, 1] S ?_))); clear S a; intro a S
 refine nxC (st_if (t := 25) S rfl ?_ ?_)
 ·clear S; intro h25 S
  exact absurd rfl h25
 clear S; intro h25 S
 refine st_condF S rfl (wp_skip (nxE (qG [1, 1, 2, 1, 4] S ?_))); clear S a; intro a S
 refine qY S (y_load S (by kernel_rfl) rfl (M.cell 1 rfl (shC_inc _ _ _))) ?_; clear S a; intro a S
 (first | refine qY S (y_addN S rfl rfl (by omega)) ?_ | refine qY S (y_int S rfl rfl rfl) ?_); clear S a; intro a S
 refine qG [4] S ?_; clear S a; intro a S
 refine qS (sz := 1) (us := [_]) S M 0 ?_; clear M; intro w4 M
 refine nxC (wp_seq (nxD (qG [1] S ?_))); clear S a; intro a S
 refine qC (xs := [.tmp 35, .tmp 4]) S (qE Tryz.func28) rfl (superS_any (s := s) { y with inc := s.x.inc + 1 } hE M hup hw hm hy) ?_
 rintro _ w5 ⟨rfl, E2, hE2, M1⟩; refine ⟨_, rfl, ?_⟩; clear S M a; intro a S; have M := M1; clear M1
 refine qG [1] S ?_; clear S a; intro a S
 refine nxA (qG [1, 1] S ?_); clear S a; intro a S
 refine nxC (st_if (t := 38) S rfl ?_ ?_)
 ·clear S; intro h38 S
  exact absurd rfl h38
 clear S; intro h38 S
 refine st_condF S rfl (wp_skip (nxE (qR [1, 1, 4, 1, 1, 1, 1, 2, 1, 4] S M ?_))); clear S a; intro a S
 refine st_store (sz := 1) (us := [_]) S M 1 rfl (by kernel_rfl) rfl rfl rfl rfl rfl rfl (by rw [shC_len hl]; exact (by decide : 5 ≤ 274)) ?_; clear M; intro w6 M
 simp only [putL, List.set_cons_zero, List.set_cons_succ, Nat.reduceAdd] at M
 refine qG [1, 2, 1, 1] S ?_; clear S a; intro a S
 refine st_store (sz := 1) (us := [_]) S M 1 rfl (by kernel_rfl) rfl rfl rfl rfl rfl rfl (by rw [List.length_set, shC_len hl]; exact (by decide : 2 ≤ 274)) ?_; clear M; intro w7 M
 simp only [putL, List.set_cons_zero, List.set_cons_succ, Nat.reduceAdd] at M
 replace S := S.keep [0, 2, 3, 8, 15, 4, 5, 25, 6, 38]
 refine nxA (qR [4, 1, 1, 1] S M ?_); clear S a; intro a S
 refine nxC (wp_ret (end_two S rfl (res_tmp rfl) (res_tmp rfl) ?_))
 rw [shC_begun] at M
 exact ⟨rfl, da, dc, lo, hi9, cs, es, E2, hE2, hBk, M.drop 0⟩
theorem shC_home {bd : Nat} {s : Sh} {dv : Value} {k : Nat} {v : V8} (hl : s.h.length = 32) (hk : s.h[k]? = some v) : cutL (shC bd s dv).toArray.toList (16 + k * 8) 8 = some v.cellsL := by
 have hlt := (List.getElem?_eq_some_iff.1 hk).1
 have e : shC bd s dv = (pB bd :: (s.st.pre ++ hcells (s.h.take k))) ++ (v.cellsL ++ (hcells (s.h.drop (k + 1)) ++ [dv, .int .i64 s.k])) := by
  unfold shC
  rw [List.append_nil]
  show pB bd :: (s.st.pre ++ (hcells s.h ++ [dv, .int .i64 s.k])) = _
  rw [hcells_split hk]; simp only [List.append_assoc, List.cons_append]
 have l0 : (pB bd :: (s.st.pre ++ hcells (s.h.take k))).length = 16 + k * 8 := by
  rw [List.length_cons, List.length_append, hcells_length, List.length_take, St.pre_len (stX_ok _ _ _ _ hl)]; omega
 have := cutL_mid (pB bd :: (s.st.pre ++ hcells (s.h.take k))) v.cellsL (hcells (s.h.drop (k + 1)) ++ [dv, .int .i64 s.k])
 rw [l0, ← e] at this
 exact this
theorem read11_any {wc w : World} {H : List Ent} {b bd : Nat} {s : Sh} {dv : Value} (k : Nat) (v : V8) (M : Mem wc w (shE b bd s dv :: H)) (hl : s.h.length = 32) (hk : s.h[k]? = some v) :
 Calls Tryz.prog 16 #[pB b, .int .i64 (k : Int)] w fun e w' => e = .returned (.tuple #[.agg v.cellsL.toArray, .int .i64 0]) ∧ Mem wc w' (shE b bd s dv :: H) := by
 have hlt := (List.getElem?_eq_some_iff.1 hk).1
 refine calls_enter Tryz.func16 rfl 23 rfl rfl ?_; intro a S
 refine wp_seq ?_
 skip
 refine wp_region_lit (st_alloc S M rfl rfl #[.int .u8 0, .int .u8 0, .int .u8 0, .int .u8 0, .int .u8 0, .int .u8 0, .int .u8 0, .int .u8 0] (by kernel_rfl) ?_); clear S M a; intro a w1 bZ S M hB
 refine qG [1] S ?_; clear S a; intro a S
 refine nxC (wp_seq (nxD (qG [1] S ?_))); clear S a; intro a S
 refine qY S (y_eqlPS (by kernel_rfl) S rfl) ?_; clear S a; intro a S
 refine nxC (st_condF S rfl (wp_skip (then_normal (wp_seq (nxD (qG [1, 1, 1] S ?_)))))); clear S a; intro a S
 refine st_if (t := 11) S rfl ?_ ?_
 ·clear S; intro h11 S
  exfalso; first | omega | (simp at h11; omega)
 clear S; intro h11 S
 refine qG [1, 1, 1] S ?_; clear S a; intro a S
 refine nxC (st_if (t := 14) S rfl ?_ ?_)
 ·clear S; intro h14 S
  first | (exfalso; omega) | (simp at h14; omega)
 clear S; intro h14 S
 refine st_condF S rfl (wp_skip (nxE (qG [1, 1, 1, 2, 16] S ?_))); clear S a; intro a S
 refine qY S (y_indexA (m := 32) (sz := 8) S (by kernel_rfl) rfl rfl (by first | omega | (simp; done) | (simp; omega))) ?_; clear S a; intro a S
 try simp only [Int.toNat_natCast, Nat.mul_one, Nat.zero_add] at S
 rw [show 1 + 15 + k * 8 = 16 + k * 8 by omega] at S
 refine qY S (y_loadAgg (cs := v.cellsL) S (by kernel_rfl) rfl rfl (M.cellsAt (k := 8) 1 rfl (shC_home hl hk))) ?_; clear S a; intro a S
 refine qS (sz := 8) (us := [_, _, _, _, _, _, _, _]) S M 0 ?_; clear M; intro w2 M
 refine qG [1] S ?_; clear S a; intro a S
 replace S := S.keep [0, 1, 4, 7, 14, 5]
 refine nxC (wp_ret (end_two S rfl (res_agg (cs := [_, _, _, _, _, _, _, _]) (by kernel_rfl) rfl rfl (M.cellsAt (k := 8) 0 rfl rfl)) (res_tmp rfl) ?_))
 exact ⟨rfl, M.drop 0⟩
end Go.Proofs.YtndabhdepjnbcaaGreat

namespace Go.Proofs.YtndabhdepjnbcaaGreat
open Go.RowKit Go.Sort
variable {ds : List Deferred}
theorem st_storeRow {P : Program} {ops : Array Oper} {Q : Exit → Act → World → Prop} {rest : List Oper} {n : Nat} {a : Act} {L : List (Nat × Value)} {w w0 : World} {H : List Ent} {x y : Operand} {T : TypeId} {lo hi e sz m j o' kk : Nat} {v u : Value} {cs us : List Value} {bb : Nat}
 (S : SeesD ds n a L) (M : Mem w0 w H) (pos : Nat) {t : TypeId} {p : String} {ed : Array Edge} {g : Option (Nat × Bool)} (hg : gd ops L ⟨none, .store T x y, t, p, ed, g⟩ = some true) (hT : (P.info? T).map (·.size) = some kk)
 (hx : val L x = some (.pointer (some ⟨bb, o', none⟩))) (hb : bb = (adr v).block) (ho : o' = (adr v).off + j) (hy : val L y = some u) (hu : u.cells.toList = us) (hsz : us.length = kk) (h1 : allOne us = true) (hp : H[pos]? = some (rowE lo hi e sz v m cs)) (hm : 0 < m) (hcl : cs.length = m * sz) (hle : j + us.length ≤ cs.length)
 (k : ∀ w' lo' hi', Mem w0 w' (rowE lo' hi' e sz v m (putL cs j us) :: H.eraseIdx pos) → wpList P ops Q rest a w') : wpList P ops Q (⟨none, .store T x y, t, p, ed, g⟩ :: rest) a w := by
 obtain ⟨gb, cap, more, rfl, hc1, hc2, hc3, M1⟩ := (M.front pos hp).ofRow hm
 simp only [adr] at hb ho
 subst hb ho
 rw [Nat.zero_add] at hx
 refine st_store (us := us) S M1 0 hg hT hx hy hu hsz h1 rfl (by rw [List.length_append]; omega) fun w' M2 => ?_
 simp only [List.set_cons_zero] at M2
 have e1 : putL (cs ++ more) j us = putL cs j us ++ more := by
  rw [putL_eq _ _ _ (by rw [List.length_append]; omega), putL_eq _ _ _ hle, List.take_append_of_le_length (by omega), List.drop_append_of_le_length (by omega)]
  simp only [List.append_assoc]
 rw [e1] at M2
 have hl : (putL cs j us).length = m * sz := by rw [putL_length]; exact hcl
 exact k w' _ _ (M2.toRow (sz := sz) (m := m) (cap := cap) (xs := putL cs j us) 0 rfl hl hc1 hc2 (by rw [List.size_toArray, List.length_append, hl, ← hc3, List.length_append, hcl]) (by rw [List.toList_toArray, ← hl]; exact List.take_left))
end Go.Proofs.YtndabhdepjnbcaaGreat

namespace Go.Proofs.YtndabhdepjnbcaaGreat
open Go.RowKit Go.Sort
theorem cloneP_any (v : Value) (m : Nat) (cs : List Value) (w : World) (hv : Rd 0 w.heap.size w 6 v m cs) (hl : m ≤ 1000000) (h1 : allOne cs = true) : Calls Tryz.prog 57 #[v] w fun e w' => ∃ v', e = .returned v' ∧ Fresh w w' 75 6 v' m cs := by
 have M := Mem.start w
 refine calls_enter Tryz.func57 rfl 8 rfl rfl ?_; intro a S
 refine nxD (qG [1] S ?_); clear S a; intro a S
 refine nxC (wp_seq (nxD (qG [1] S ?_))); clear S a; intro a S
 refine qY S (y_eqlNil (e := 75) S rfl (M.arg hv) (by kernel_rfl)) ?_; clear S a; intro a S
 refine nxC (st_split (t := 4) S rfl ?_ ?_)
 ·clear S; intro h4 S
  refine st_condT S rfl (nxD (qG [1] S ?_)); clear S a; intro a S
  refine nxC (wp_ret (then_ret (end_one S rfl (res_tmp rfl) ?_)))
  obtain ⟨rfl, h0, h1⟩ := hv.nilV h4
  exact ⟨_, rfl, by rw [h1, h0]; exact M.freshNil _ _⟩
 clear S; intro h4 S
 refine st_condF S rfl (wp_skip (nxE (st_lit0 (e := 75) (sz := 6) (by_ := 64) (zc := [.int .i64 0, .int .i64 0, .int .i64 0, .slice none 0 0, .int .i64 0, .int .i64 0]) S M rfl rfl (by kernel_rfl) ?_))); clear S M a; intro a w1 b1 S M hB
 refine qG [1] S ?_; clear S a; intro a S
 replace M := M.toRow (sz := 6) (m := 0) (cap := 0) (xs := []) 0 rfl rfl (Nat.le_refl _) (Nat.zero_le _) rfl rfl
 refine st_append (e := 75) (sz := 6) (by_ := 64) (zc := [.int .i64 0, .int .i64 0, .int .i64 0, .slice none 0 0, .int .i64 0, .int .i64 0]) S M 0 rfl rfl (by kernel_rfl) rfl (by decide) rfl rfl rfl (M.arg hv) (h1) (by omega) (by unfold maxLen; omega) ?_; clear S M a; intro a w2 vA loA hiA S M
 refine qG [1] S ?_; clear S a; intro a S
 refine nxC (wp_ret (end_one S rfl (res_tmp rfl) ?_))
 exact ⟨_, rfl, by have := M.fresh 0 rfl; rwa [Nat.zero_add, List.nil_append] at this⟩
theorem putL_wr {p : Pr} {lv v' : Value} {ck rest : List Value} {k : Nat} (hk : ck.length = k * 6) : putL (ck ++ (p.cellsL lv ++ rest)) (k * 6 + 3) [v'] = (ck ++ p.cellsL v') ++ rest := by
 rw [putL_eq _ _ _ (by simp only [List.length_append, hk]; show _ ≤ k * 6 + (6 + _); simp; omega)]
 have e1 : (ck ++ (p.cellsL lv ++ rest)).take (k * 6 + 3) = ck ++ [.int .i64 p.name.stamp, .int .i64 p.name.inc, .int .i64 p.name.try_] := by
  rw [List.take_append, hk, List.take_of_length_le (by omega), Nat.add_sub_cancel_left]; rfl
 have e2 : (ck ++ (p.cellsL lv ++ rest)).drop (k * 6 + 3 + [v'].length) = [.int .i64 p.give, .int .i64 p.take] ++ rest := by
  rw [show k * 6 + 3 + [v'].length = ck.length + 4 by rw [hk]; rfl, List.drop_append, List.drop_of_length_le (by omega), List.nil_append, Nat.add_sub_cancel_left]; rfl
 rw [e1, e2]; simp
set_option maxHeartbeats 1000000 in
theorem copied11_any (da : Option Addr) (dc : Nat) (cs : List Value) (ps : Pl) (w : World) (hd : PrsC cs 0 w.heap.size w (.slice da ps.length dc) ps) (hps : ps.length ≤ 1000) (hws : ∀ (i : Nat) (q : Pr × List Wr), ps[i]? = some q → q.2.length ≤ 1000000) (hcl : cs.length = ps.length * 6) (h1 : allOne cs = true) :
 Calls Tryz.prog 34 #[.slice da ps.length dc] w fun e w' => ∃ (ra : Option Addr) (rc lo hi : Nat) (cs2 : List Value) (es2 : List Ent), e = .returned (.slice ra ps.length rc) ∧ Mem w w' (rowE lo hi 75 6 (.slice ra ps.length rc) ps.length cs2 :: es2) ∧ PrBk cs2 ps es2 := by
 have M := Mem.start w
 refine calls_enter Tryz.func34 rfl 24 rfl rfl ?_; intro a S
 refine nxD (qG [1] S ?_); clear S a; intro a S
 refine nxA (qG [1] S ?_); clear S a; intro a S
 refine qC (xs := [.tmp 5]) S (qE Tryz.func57) rfl (cloneP_any _ ps.length cs _ (M.argW hd.1) (by omega) h1) ?_
 rintro _ w1 ⟨v2, rfl, hF⟩; refine ⟨_, rfl, ?_⟩; clear S a; intro a S
 obtain ⟨lo, hi, -, M1⟩ := M.pushFresh hF; clear M; have M := M1; clear M1
 obtain ⟨ra, rc, rfl, -, -⟩ := (M.readAll 0 rfl (by unfold maxLen; omega)).form
 refine qG [1] S ?_; clear S a; intro a S
 refine nxC (wp_seq (nxD (qG [1] S ?_))); clear S a; intro a S
 refine qY S (y_lenS (E := 75) S rfl (by kernel_rfl)) ?_; clear S a; intro a S
 refine qG [1] S ?_; clear S a; intro a S
 refine nxC (wp_block (wp_loop_g (fun m a w' => ∃ (k : Nat) (ck : List Value) (es : List Ent) (lo hi : Nat), k ≤ ps.length ∧ m = ps.length - k ∧ PrBk ck (ps.take k) es ∧ Sees 24 a [(3, .slice ra ps.length rc), (8, .int .i64 (ps.length : Int)), (9, .int .i64 (k : Int))] ∧ Mem w w' (rowE lo hi 75 6 (.slice ra ps.length rc) ps.length (ck ++ cs.drop (k * 6)) :: es)) (ps.length) ?_ ?_))
 ·skip
  exact ⟨0, [], [], lo, hi, Nat.zero_le _, rfl, PrBk.nil, S.sub _ rfl, by rw [Nat.zero_mul, List.drop_zero]; exact M⟩
 clear S M a; intro m a wl
 rintro ⟨k, ck, es, lo, hi, hk, rfl, hBk, S, M⟩
 refine nxD (qG [1] S ?_); clear S a; intro a S
 refine nxC (wp_seq (st_fi (t := 10) S rfl ?_ ?_))
 ·clear S; intro h10 S
  refine st_condF S rfl (wp_exit (then_exit (then_exit (block_hit (nxE (qG [1, 1] S ?_)))))); clear S a; intro a S
  refine nxC (wp_ret (end_one S rfl (res_tmp rfl) ?_))
  obtain rfl : k = ps.length := by omega
  rw [List.take_length] at hBk
  rw [List.drop_of_length_le (by omega), List.append_nil] at M
  exact ⟨ra, rc, lo, hi, ck, es, rfl, M, hBk⟩
 clear S; intro h10 S
 refine st_condT S rfl (wp_skip (then_normal (wp_seq (wp_block (nxD (qG [1, 1] S ?_)))))); clear S a; intro a S
 refine nxC ?_
 have hk' : k < ps.length := by omega
 obtain ⟨q, hq⟩ : ∃ q, ps[k]? = some q := ⟨_, List.getElem?_eq_getElem hk'⟩
 obtain ⟨ad, cp, hrow, hw⟩ := hd.sl hq
 have hck : ck.length = k * 6 := by rw [hBk.1, List.length_take, Nat.min_eq_left hk]
 have hdr : cs.drop (k * 6) = q.1.cellsL (.slice ad q.2.length cp) ++ cs.drop ((k + 1) * 6) := by
  rw [← hrow, show (k + 1) * 6 = k * 6 + 6 by omega, ← List.drop_drop, List.take_append_drop]
 have hrl : (ck ++ cs.drop (k * 6)).length = ps.length * 6 := by rw [List.length_append, hck, List.length_drop, hcl]; omega
 have hrow2 : ((ck ++ cs.drop (k * 6)).drop (k * 6)).take 6 = q.1.cellsL (.slice ad q.2.length cp) := by
  rw [List.drop_append_of_le_length (by omega), List.drop_of_length_le (by omega), List.nil_append]; exact hrow
 refine wp_region_lit (qG [1, 1, 1, 1] S ?_); clear S a; intro a S
 refine qY S (y_indexR (e := 75) (sz := 6) S (by kernel_rfl) rfl ((M.readAll 0 rfl (by unfold maxLen; omega))) rfl (by first | omega | (simp; done) | (simp; omega))) ?_; clear S a; intro a S
 try simp only [Int.toNat_natCast, Nat.mul_one, Nat.zero_add] at S
 refine qG [4] S ?_; clear S a; intro a S
 refine qY S (y_load S (by kernel_rfl) rfl (((M.readAll 0 rfl (by unfold maxLen; omega)).at_.row (i := k) hrow2 rfl) 3 (by show 3 < 6; omega))) ?_; clear S a; intro a S
 refine qC (xs := [.tmp 18]) S (qE Tryz.func58) rfl (cloneW_any _ q.2 _ (M.argW hw) (hws k q hq)) ?_
 rintro _ w2 ⟨v3, rfl, hF⟩; refine ⟨_, rfl, ?_⟩; clear S a; intro a S
 obtain ⟨wa, wcp, rfl, -, -⟩ := (hF.rd (by have := hws k q hq; unfold maxLen; omega)).form
 obtain ⟨lo1, hi1, -, M1⟩ := M.pushFresh hF; clear M; have M := M1; clear M1
 refine qY S (y_indexR (e := 75) (sz := 6) S (by kernel_rfl) rfl ((M.readAll 1 rfl (by unfold maxLen; omega))) rfl (by first | omega | (simp; done) | (simp; omega))) ?_; clear S a; intro a S
 try simp only [Int.toNat_natCast, Nat.mul_one, Nat.zero_add] at S
 refine qG [4] S ?_; clear S a; intro a S
 refine st_storeRow (v := .slice ra ps.length rc) (sz := 6) (m := ps.length) (j := k * 6 + 3) (us := [.slice wa q.2.length wcp]) S M 1 rfl (by kernel_rfl) rfl rfl (by first | rfl | omega | (simp only [Int.toNat_natCast]; omega)) rfl rfl rfl rfl rfl (by omega) hrl (by rw [hrl]; show k * 6 + 3 + 1 ≤ _; omega) ?_; clear M; intro wz lo9 hi9 M
 simp only [List.eraseIdx_cons_succ, List.eraseIdx_cons_zero] at M
 rw [hdr, putL_wr hck] at M
 refine wpList_nil (block_normal (nxF ?_))
 (first | refine qY S (y_addN S rfl rfl (by omega)) ?_ | refine qY S (y_int S rfl rfl rfl) ?_); clear S a; intro a S
 refine qG [1] S ?_; clear S a; intro a S
 refine nxC ?_
 skip
 have hB2 := hBk.more (q := q) (ad := wa) (cp := wcp) (lo := lo1) (hi := hi1) (hws k q hq)
 rw [← take_snocP hq] at hB2
 exact ⟨ps.length - (k + 1), by omega, k + 1, _, _, lo9, hi9, by omega, rfl, hB2, S.sub _ rfl, M⟩
set_option maxHeartbeats 1000000 in
set_option maxRecDepth 10000 in
theorem doubt11_any {wc w : World} {H : List Ent} {b bd : Nat} {s : Sh} {da : Option Addr} {dc : Nat} {cs : List Value} {es : List Ent} (M : Mem wc w (shE b bd s (.slice da s.ps.length dc) :: H)) (hd : ∀ W pre, Mem wc W (pre ++ (shE b bd s (.slice da s.ps.length dc) :: H)) → PrsC cs 0 W.heap.size W (.slice da s.ps.length dc) s.ps) (hBk : PrBk cs s.ps es) (hl : s.h.length = 32) (hps : s.ps.length ≤ 24) :
 Calls Tryz.prog 20 #[pB b] w fun e w' => ∃ (ra : Option Addr) (rc lo hi : Nat) (cs2 : List Value) (es2 : List Ent), e = .returned (.slice ra s.ps.length rc) ∧ PrBk cs2 s.ps es2 ∧ Mem wc w' (rowE lo hi 75 6 (.slice ra s.ps.length rc) s.ps.length cs2 :: (es2 ++ (shE b bd s (.slice da s.ps.length dc) :: H))) := by
 refine calls_enter Tryz.func20 rfl 11 rfl rfl ?_; intro a S
 refine wp_seq ?_
 skip
 refine wp_region_lit (qG [1] S ?_); clear S a; intro a S
 refine nxC (wp_seq (nxD (qG [1] S ?_))); clear S a; intro a S
 refine qY S (y_eqlPS (by kernel_rfl) S rfl) ?_; clear S a; intro a S
 refine nxC (st_condF S rfl (wp_skip (nxE (qG [1, 1, 2, 272] S ?_)))); clear S a; intro a S
 refine qY S (y_load S (by kernel_rfl) rfl (M.cell 0 rfl (shC_doubt hl))) ?_; clear S a; intro a S
 refine qC (xs := [.tmp 9]) S (qE Tryz.func34) rfl (copied11_any da dc cs s.ps _ (hd _ [] M) (by omega) hBk.short hBk.1 hBk.2.1) ?_
 rintro _ w1 ⟨ra, rc, lo2, hi2, cs2, es2, rfl, M2, hB2⟩; refine ⟨_, rfl, ?_⟩; clear S a; intro a S
 replace M := M.join M2
 refine qG [1] S ?_; clear S a; intro a S
 refine nxC (wp_ret (end_one S rfl (res_tmp rfl) ?_))
 exact ⟨ra, rc, lo2, hi2, cs2, es2, rfl, hB2, M⟩
set_option maxHeartbeats 1000000 in
set_option maxRecDepth 10000 in
theorem state11_any {wc w : World} {H : List Ent} {b bd : Nat} {s : Sh} {da : Option Addr} {dc : Nat} {cs : List Value} {es : List Ent} (M : Mem wc w (shE b bd s (.slice da s.ps.length dc) :: H)) (hd : ∀ W pre, Mem wc W (pre ++ (shE b bd s (.slice da s.ps.length dc) :: H)) → PrsC cs 0 W.heap.size W (.slice da s.ps.length dc) s.ps) (hBk : PrBk cs s.ps es) (hl : s.h.length = 32) (hps : s.ps.length ≤ 24) :
 Calls Tryz.prog 15 #[pB b] w fun e w' => ∃ (ra : Option Addr) (rc lo hi : Nat) (cs2 : List Value) (es2 : List Ent), e = .returned (.agg (s.st.cellsL (.slice ra s.ps.length rc)).toArray) ∧ PrBk cs2 s.ps es2 ∧ Mem wc w' (rowE lo hi 75 6 (.slice ra s.ps.length rc) s.ps.length cs2 :: (es2 ++ (shE b bd s (.slice da s.ps.length dc) :: H))) := by
 have hok : s.st.ok := stX_ok _ _ _ _ hl
 refine calls_enter Tryz.func15 rfl 19 rfl rfl ?_; intro a S
 refine wp_seq ?_
 skip
 refine wp_region_lit (st_alloc S M rfl rfl (zSt.cellsL (.slice none 0 0)).toArray (by kernel_rfl) ?_); clear S M a; intro a w1 bZ S M hB
 refine nxC (wp_seq (nxD (qG [1] S ?_))); clear S a; intro a S
 refine qY S (y_eqlPS (by kernel_rfl) S rfl) ?_; clear S a; intro a S
 refine nxC (st_condF S rfl (wp_skip (nxE (qG [1, 1, 2] S ?_)))); clear S a; intro a S
 refine qY S (y_loadAgg (k := 273) S (by kernel_rfl) rfl (by with_reducible first | exact St.len hok _ | exact St.len zSt_ok _ | exact shC_len hl | exact len1S _) (M.cellsMid 1 rfl (by with_reducible first | exact St.len hok _ | exact St.len zSt_ok _ | exact shC_len hl | exact len1S _))) ?_; clear S a; intro a S
 refine st_alloc S M rfl rfl (zSt.cellsL (.slice none 0 0)).toArray (by kernel_rfl) ?_; clear S M a; intro a w2 bY S M hB
 refine st_storeAll (sz := 273) S M 0 rfl (by kernel_rfl) rfl rfl (by with_reducible first | exact St.len hok _ | exact St.len zSt_ok _ | exact shC_len hl | exact len1S _) (by with_reducible first | exact St.one hok _ rfl | exact St.one zSt_ok _ rfl) rfl (by with_reducible first | exact St.len hok _ | exact St.len zSt_ok _ | exact shC_len hl | exact len1S _) ?_; clear M; intro w3 M
 simp only [List.set_cons_zero, List.set_cons_succ] at M
 refine nxA (qG [1, 1, 2, 272] S ?_); clear S a; intro a S
 refine qY S (y_load S (by kernel_rfl) rfl (M.cell 2 rfl (shC_doubt hl))) ?_; clear S a; intro a S
 refine qC (xs := [.tmp 15]) S (qE Tryz.func34) rfl (copied11_any da dc cs s.ps _ (hd _ (_ :: _ ::  []) M) (by omega) hBk.short hBk.1 hBk.2.1) ?_
 rintro _ w4 ⟨ra, rc, lo2, hi2, cs2, es2, rfl, M2, hB2⟩; refine ⟨_, rfl, ?_⟩; clear S a; intro a S
 have M1 := (M.join M2).perm (perm_preS (P := _ :: _ ::  []))
 clear M; have M := M1; clear M1 M2
 simp only [List.cons_append, List.nil_append] at M
 refine qG [272] S ?_; clear S a; intro a S
 refine st_store (sz := 1) (us := [_]) S M 0 rfl (by kernel_rfl) rfl rfl rfl rfl rfl rfl (by rw [St.len hok]; exact (by decide : 272 ≤ 273)) ?_; clear M; intro w5 M
 simp only [putL, List.set_cons_zero, List.set_cons_succ, Nat.reduceAdd] at M
 refine nxC (wp_seq ?_)
 rw [St.setD hok] at M
 refine wp_region_lit (qY S (y_loadAgg (k := 273) (cs := _) S (by kernel_rfl) rfl (by with_reducible first | exact St.len hok _ | exact St.len zSt_ok _ | exact shC_len hl | exact len1S _) (M.cellsAt 0 rfl cutL_all)) ?_); clear S a; intro a S
 refine st_storeAll (sz := 273) S M 1 rfl (by kernel_rfl) rfl rfl (by with_reducible first | exact St.len hok _ | exact St.len zSt_ok _ | exact shC_len hl | exact len1S _) (by with_reducible first | exact St.one hok _ rfl | exact St.one zSt_ok _ rfl) rfl (by with_reducible first | exact St.len hok _ | exact St.len zSt_ok _ | exact shC_len hl | exact len1S _) ?_; clear M; intro w6 M
 simp only [List.set_cons_zero, List.set_cons_succ] at M
 refine nxC (wp_ret (end_one S rfl (res_agg (k := 273) (cs := _) (by kernel_rfl) rfl (by with_reducible first | exact St.len hok _ | exact St.len zSt_ok _ | exact shC_len hl | exact len1S _) (M.cellsAt 1 rfl cutL_all)) ?_))
 exact ⟨ra, rc, lo2, hi2, cs2, es2, rfl, hB2, M.sub (.cons _ (.cons _ (List.Sublist.refl _)))⟩
end Go.Proofs.YtndabhdepjnbcaaGreat

namespace Go.Proofs.YtndabhdepjnbcaaGreat
open Go.RowKit Go.Sort
structure WentTo (wc : World) (A : List Ent) (b bd : Nat) (s s' : Sh) (N : Int) (w' : World) : Prop where
 it : ∃ S', ShI S' s' N ∧ ShM wc w' A b bd s' S'
 inc : s'.x.inc = s.x.inc
theorem come_pre {s s1 : Sh} {S0 S1 : DS} {N : Int} (hI : ShI S0 s N) (hN : N + 1 ≤ 1000) (h : (s1 = s ∧ S1 = S0) ∨ (s1 = s.save ∧ S1 = s.saveD S0)) : ShI S1 s1 (N + 1) ∧ s1.ps = s.ps ∧ s1.h = s.h ∧ s1.x.inc = s.x.inc ∧ s1.x.owned = s.x.owned := by
 rcases h with ⟨rfl, rfl⟩ | ⟨rfl, rfl⟩
 ·exact ⟨hI.mono (by omega) hN, rfl, rfl, rfl, rfl⟩
 ·exact ⟨hI.save hN, rfl, rfl, rfl, rfl⟩
theorem go_prep {wc w' : World} {A : List Ent} {b bd : Nat} {s : Sh} {S0 : DS} {N : Int} {r : Rc} {x : List Wr} (hI : ShI S0 s N) (hN : N + 2 ≤ 1000) (hok : PrepOk s r x) (h8 : wQ s.ps + (nOf (r.enc x).length + 1) ≤ 8) (h : ComeP wc A b bd s S0 r x (wQ s.ps + (nOf (r.enc x).length + 1) : Nat) w') :
 ∃ s', s'.h = s.h ∧ s'.ps = s.ps ++ [(prOf r, x)] ∧ WentTo wc A b bd s s' (N + 2) w' := by
 obtain ⟨s1, S1, h1, h2, hM⟩ := h
 obtain ⟨hm, hk, hf⟩ := hok
 obtain ⟨hI1, e1, e2, e3, -⟩ := come_pre hI (by omega) h1
 have hst : stepO s1.ps r x = (s1.ps ++ [(prOf r, x)], []) := by unfold stepO; rw [if_neg (by omega), if_pos hk, e1, hf]
 have hpr : prRc (prOf r) = r := prRc_prOf hm hk
 have hmq : mayQ (prOf r, x) := by unfold mayQ; rw [hpr]; exact hm
 have hsq : secQ (prOf r, x) = nOf (r.enc x).length := by unfold secQ encQ; rw [hpr]
 have hW : wQ (s1.ps ++ [(prOf r, x)]) = wQ s.ps + (nOf (r.enc x).length + 1) := by
  unfold wQ; rw [wtP_snoc, hsq, e1, List.length_append, List.length_singleton]; omega
 have hm1 := hI1.mq
 refine ⟨s1.keep r x, by show onF s1.h (stepO s1.ps r x).2 = _; rw [hst]; exact e2, by show (stepO s1.ps r x).1 = _; rw [hst, e1], ⟨⟨_, ?_, hM⟩, e3⟩⟩
 have := hI1.keep (r := r) (x := x) (fl := true) (by omega) hm (by
  rw [hst]; intro q hq
  rcases List.mem_append.1 hq with hq | hq
  ·exact hm1 q hq
  ·rw [List.mem_singleton.1 hq]; exact hmq) (by rw [hst]; show wQ _ ≤ 8; rw [hW]; exact h8) (by rw [hst]; show s1.n + _ + ((wQ (s1.ps ++ [(prOf r, x)]) : Nat) : Int) ≤ _; rw [hW]; omega)
 rw [show N + 2 = N + 1 + 1 by omega]; exact this
theorem wQ_erase {ps : Pl} {k : Nat} {q : Pr × List Wr} (hq : ps[k]? = some q) : wQ (ps.eraseIdx k) + (secQ q + 1) = wQ ps := by
 have hl := (List.getElem?_eq_some_iff.1 hq).1
 have h1 : wtP ps = wtP (ps.take (k + 1)) + wtP (ps.drop (k + 1)) := by rw [← wtP_append, List.take_append_drop]
 unfold wQ
 rw [List.eraseIdx_eq_take_drop_succ, wtP_append, h1, wtP_take hq, List.length_append, List.length_take, List.length_drop]
 omega
theorem go_out {wc w' : World} {A : List Ent} {b bd : Nat} {s : Sh} {S0 : DS} {N : Int} {nm : Nm} {y : Bool} {k : Nat} (hI : ShI S0 s N) (hN : N + 2 ≤ 1000) (hf : findP nm s.ps = some k) (hM : ShM wc w' A b bd (s.keep (r3 nm y) []) (s.keepD S0 (r3 nm y) [] y)) :
 ∃ q, s.ps[k]? = some q ∧ q.1.name = nm ∧ (s.keep (r3 nm y) []).h = onF s.h (if y = true then q.2 else []) ∧ (s.keep (r3 nm y) []).ps = s.ps.eraseIdx k ∧ WentTo wc A b bd s (s.keep (r3 nm y) []) (N + 2) w' := by
 obtain ⟨q, hq, hqn⟩ := findP_name hf
 have hmq := hI.mq q (List.mem_of_getElem? hq)
 have hm : (r3 nm y).may [] = true := r3_may y (by rw [← hqn]; exact mayQ_name hmq)
 have hno : nOf ((r3 nm y).enc []).length ≤ 2 := by have := enc_len hm; unfold nOf; omega
 have hst : stepO s.ps (r3 nm y) [] = (s.ps.eraseIdx k, if y = true then q.2 else []) := by
  unfold stepO
  rw [if_neg (show ¬ (3 : Int) = 1 by decide), if_neg (show ¬ (3 : Int) = 2 by decide), show (r3 nm y).name = nm from rfl, hf]
  simp only [hq]
 have hw := hI.w8
 have hwe := wQ_erase hq
 have hrm := hI.room
 have hsq := secQ_le hmq
 have e8 : wQ s.ps = wtP s.ps + s.ps.length := rfl
 refine ⟨q, hq, hqn, by show onF s.h (stepO s.ps (r3 nm y) []).2 = _; rw [hst], by show (stepO s.ps (r3 nm y) []).1 = _; rw [hst], ⟨⟨_, ?_, hM⟩, rfl⟩⟩
 have := hI.keep (r := r3 nm y) (x := []) (fl := y) (by omega) hm (by
  rw [hst]; intro p hp
  exact hI.mq p (List.mem_of_mem_eraseIdx hp)) (by rw [hst]; show wQ (s.ps.eraseIdx k) ≤ 8; omega) (by rw [hst]; show s.n + _ + ((wQ (s.ps.eraseIdx k) : Nat) : Int) ≤ _; omega)
 exact this.mono (by omega) hN
def sh1 : Sh := sh0.begun suFirst
theorem sh1_may : (begSu sh0 suFirst).may := by unfold Su.may; refine ⟨fun k hk => ?_, by decide⟩; rcases lt8 hk with rfl | rfl | rfl | rfl | rfl | rfl | rfl | rfl <;> decide
theorem sh1_I : ShI (DS.new.write ((suFirst.gen + 1) % 2) (supS (begSu sh0 suFirst))).flush sh1 2 := by
 refine ⟨rfl, fun k => by show ((0 : Nat) : Int) ≤ _; decide, rfl, fun q hq => (by cases hq), sh1_may, by decide, by decide, by decide, by decide, by decide, by decide⟩
end Go.Proofs.YtndabhdepjnbcaaGreat

namespace Go.Proofs.YtndabhdepjnbcaaGreat
open Go.RowKit Go.Sort
def namesP (ps : Pl) : List Nm := ps.map fun q => q.1.name
theorem findP_at {nm : Nm} : ∀ {ps : Pl} {k : Nat}, findP nm ps = some k → (namesP ps)[k]? = some nm
 | [], k, h => by simp [findP] at h
 | q :: ps, k, h => by
   rw [findP] at h
   split at h
   ·next h1 =>
    obtain rfl : 0 = k := by simpa using h
    show some q.1.name = some nm
    rw [Nm.eqb_iff.1 h1]
   ·cases hf : findP nm ps with
    | none => rw [hf] at h; simp at h
    | some j =>
      rw [hf] at h
      obtain rfl : j + 1 = k := by simpa using h
      have h2 := findP_at hf
      unfold namesP at h2 ⊢
      simpa using h2
theorem findP_no {nm : Nm} : ∀ {ps : Pl}, findP nm ps = none → nm ∉ namesP ps
 | [], _ => by simp [namesP]
 | q :: ps, h => by
   rw [findP] at h
   split at h
   ·cases h
   ·next h1 =>
    cases hf : findP nm ps with
    | some j => rw [hf] at h; simp at h
    | none =>
      intro hm
      rcases List.mem_cons.1 (show nm ∈ q.1.name :: namesP ps from hm) with h2 | h2
      ·exact h1 (Nm.eqb_iff.2 h2.symm)
      ·exact findP_no hf h2
theorem names_stepO {ps : Pl} (h : (namesP ps).Nodup) (r : Rc) (x : List Wr) : (namesP (stepO ps r x).1).Nodup := by
 unfold stepO
 split
 ·exact h
 ·split
  ·cases hf : findP r.name ps with
   | some k =>
     have hk := findP_at hf
     have e : namesP (ps.set k (prOf r, x)) = namesP ps := by
      unfold namesP at hk ⊢
      rw [List.map_set]
      exact List.ext_getElem? fun j => by
       rw [List.getElem?_set]
       by_cases e : k = j
       ·subst e
        rw [if_pos rfl, hk, if_pos (List.getElem?_eq_some_iff.1 hk).1]; rfl
       ·rw [if_neg e]
     simp only
     rw [e]; exact h
   | none =>
     have hn := findP_no hf
     simp only
     unfold namesP at hn ⊢
     rw [List.map_append, List.nodup_append]
     refine ⟨h, by simp, fun a ha b hb e => ?_⟩
     rw [List.map_cons, List.map_nil, List.mem_singleton] at hb
     subst hb; subst e
     exact hn ha
  ·cases hf : findP r.name ps with
   | some k => exact h.sublist ((List.eraseIdx_sublist ..).map _)
   | none => exact h
end Go.Proofs.YtndabhdepjnbcaaGreat

namespace Go.Proofs.YtndabhdepjnbcaaGreat
open Go.RowKit Go.Sort
def fold3 : Int → List V8 → Pl → Rl → Int × List V8 × Pl
 | o, h, ps, [] => (o, h, ps)
 | o, h, ps, q :: l => fold3 (ownP o ps q.1) (onF h (stepO ps q.1 q.2).2) (stepO ps q.1 q.2).1 l
theorem fold3_append : ∀ (l m : Rl) (o : Int) (h : List V8) (ps : Pl), fold3 o h ps (l ++ m) = fold3 (fold3 o h ps l).1 (fold3 o h ps l).2.1 (fold3 o h ps l).2.2 m
 | [], _, _, _, _ => rfl
 | _ :: l, m, _, _, _ => fold3_append l m _ _ _
theorem foldS_3 : ∀ (l : Rl) (s : St) (ps : Pl), ∃ n, foldS s ps l = ({ s with owned := (fold3 s.owned s.home ps l).1, home := (fold3 s.owned s.home ps l).2.1, app := n }, (fold3 s.owned s.home ps l).2.2)
 | [], s, ps => ⟨s.app, rfl⟩
 | q :: l, s, ps => by
   obtain ⟨n, h⟩ := foldS_3 l (appSt s ps q.1 q.2) (stepO ps q.1 q.2).1
   exact ⟨n, h⟩
def encL (l : Rl) : List (List UInt8) := l.map fun q => q.1.enc q.2
theorem encL_append (l m : Rl) : encL (l ++ m) = encL l ++ encL m := List.map_append
def prRl (ps : Pl) : Rl := ps.map fun q => (prRc q.1, q.2)
theorem encL_pr (ps : Pl) : encL (prRl ps) = ps.map encQ := by unfold encL prRl; rw [List.map_map]; rfl
theorem fold3_pr (o : Int) (h : List V8) : ∀ (ps ps0 : Pl), (namesP (ps0 ++ ps)).Nodup → fold3 o h ps0 (prRl ps) = (o, h, ps0 ++ ps)
 | [], ps0, _ => by rw [List.append_nil]; rfl
 | q :: ps, ps0, hn => by
   have hf : findP q.1.name ps0 = none := by
    cases hf : findP q.1.name ps0 with
    | none => rfl
    | some k =>
      exfalso
      have h1 := List.mem_of_getElem? (findP_at hf)
      unfold namesP at hn h1
      rw [List.map_append, List.map_cons] at hn
      exact (List.nodup_append.1 hn).2.2 _ h1 _ (List.mem_cons_self ..) rfl
   have hst : stepO ps0 (prRc q.1) q.2 = (ps0 ++ [q], []) := by
    unfold stepO
    rw [if_neg (show ¬ (prRc q.1).kind = 1 from (by decide : ¬ (2 : Int) = 1)), if_pos (show (prRc q.1).kind = 2 from rfl), show (prRc q.1).name = q.1.name from rfl, hf]
    rfl
   have ho : ownP o ps0 (prRc q.1) = o := by
    unfold ownP; rw [if_neg]; rintro ⟨h3, -⟩; exact absurd (show (2 : Int) = 3 from h3) (by decide)
   have h2 := fold3_pr o h ps (ps0 ++ [q]) (by rw [List.append_assoc]; exact hn)
   rw [List.append_assoc] at h2
   show fold3 (ownP o ps0 (prRc q.1)) (onF h (stepO ps0 (prRc q.1) q.2).2) (stepO ps0 (prRc q.1) q.2).1 (prRl ps) = _
   rw [hst, ho]; exact h2
def NoOut (noes : List Nm) (q : Rc × List Wr) : Prop := ∃ nm, nm ∈ noes ∧ q = (r3 nm false, [])
theorem own_no (nm : Nm) (o : Int) (ps : Pl) : ownP o ps (r3 nm false) = o := by
 unfold ownP; rw [if_neg]; rintro ⟨-, h⟩; cases h
theorem step_no (nm : Nm) (ps : Pl) : (stepO ps (r3 nm false) []).2 = [] ∧ (∀ q ∈ (stepO ps (r3 nm false) []).1, q ∈ ps) ∧ ∀ q ∈ ps, q ∈ (stepO ps (r3 nm false) []).1 ∨ q.1.name = nm := by
 unfold stepO
 rw [if_neg (show ¬ (3 : Int) = 1 by decide), if_neg (show ¬ (3 : Int) = 2 by decide), show (r3 nm false).name = nm from rfl]
 cases hf : findP nm ps with
 | none => exact ⟨rfl, fun q h => h, fun q h => .inl h⟩
 | some k =>
   obtain ⟨p, hp, hpn⟩ := findP_name hf
   refine ⟨rfl, fun q h => List.mem_of_mem_eraseIdx h, fun q h => ?_⟩
   obtain ⟨i, hi⟩ := List.mem_iff_getElem?.1 h
   rcases Nat.lt_trichotomy i k with h1 | h1 | h1
   ·left; refine List.mem_of_getElem? (i := i) ?_
    rw [List.getElem?_eraseIdx, if_pos h1]; exact hi
   ·subst h1; rw [hp] at hi; obtain rfl := Option.some.inj hi; exact .inr hpn
   ·left; refine List.mem_of_getElem? (i := i - 1) ?_
    rw [List.getElem?_eraseIdx, if_neg (by omega), show i - 1 + 1 = i by omega]; exact hi
theorem fold3_no {noes : List Nm} (o : Int) (h : List V8) : ∀ (l : Rl) (ps : Pl), (∀ q ∈ l, NoOut noes q) → ∃ ps2, fold3 o h ps l = (o, h, ps2) ∧ (∀ q ∈ ps2, q ∈ ps) ∧ ∀ q ∈ ps, q ∈ ps2 ∨ q.1.name ∈ noes
 | [], ps, _ => ⟨ps, rfl, fun _ h => h, fun _ h => .inl h⟩
 | q :: l, ps, hq => by
   obtain ⟨nm, hnm, rfl⟩ := hq q (List.mem_cons_self ..)
   obtain ⟨h1, h2, h3⟩ := step_no nm ps
   obtain ⟨ps2, e, h4, h5⟩ := fold3_no o h l (stepO ps (r3 nm false) []).1 fun p hp => hq p (List.mem_cons_of_mem _ hp)
   refine ⟨ps2, ?_, fun p hp => h2 p (h4 p hp), fun p hp => ?_⟩
   ·show fold3 (ownP o ps (r3 nm false)) (onF h (stepO ps (r3 nm false) []).2) (stepO ps (r3 nm false) []).1 l = _
    rw [own_no, h1]; exact e
   ·rcases h3 p hp with h6 | h6
    ·exact h5 p h6
    ·exact .inr (h6 ▸ hnm)
theorem get_nil {S : DS} {k : Nat} (h : S.cache (k : Int) = []) : S.get k = S.dur k := by unfold DS.get; rw [h]; rfl
theorem get_eq {S S2 : DS} {k : Nat} (hd : S2.dur k = S.dur k) (hc : S2.cache (k : Int) = S.cache (k : Int)) : S2.get k = S.get k := by unfold DS.get; rw [hc, hd]
def DS.rise (S : DS) (plan : List (Int × Int)) : DS := { S.crash plan with down := false }
theorem get_crash (S : DS) (plan : List (Int × Int)) (k : Nat) : (S.rise plan).get k = S.dur k ∨ (S.rise plan).get k ∈ S.cache (k : Int) := by
 have e : (S.rise plan).get k = durK S.dur (keptB S.cache plan []) k := rfl
 rw [e]
 rcases durK_at S.dur (keptB S.cache plan []) k with h | ⟨x, h1, h2, h3⟩
 ·exact .inl h
 ·right; rw [h3]; have := keptB_mem h1; rw [h2] at this; exact this
theorem crash_nil {S : DS} (plan : List (Int × Int)) {k : Nat} (h : S.cache (k : Int) = []) : (S.rise plan).get k = S.get k := by
 rw [get_nil h]
 rcases get_crash S plan k with e | e
 ·exact e
 ·rw [h] at e; cases e
theorem putF_append (S : DS) (a b : List FrB) : putF S (a ++ b) = putF (putF S a) b := List.foldl_append
theorem putF_else : ∀ (fs : List FrB) (S : DS), (putF S fs).dur = S.dur ∧ ∀ k : Int, (k < 2 ∨ 26 ≤ k) → (putF S fs).cache k = S.cache k
 | [], _ => ⟨rfl, fun _ _ => rfl⟩
 | x :: fs, S => by
   obtain ⟨h1, h2⟩ := putF_else fs (S.write (2 + x.1.seq % 24) (bytesF x.1 x.2))
   refine ⟨h1, fun k hk => (h2 k hk).trans ?_⟩
   show (if k = 2 + x.1.seq % 24 then _ else S.cache k) = _
   rw [if_neg (by omega)]
theorem SupI.of_eq {sec sec2 : Nat → List UInt8} {s : Su} (h : SupI sec s) (e : ∀ k, k < 2 → sec2 k = sec k) : SupI sec2 s :=
 ⟨h.may, by rw [e _ (by omega)]; exact h.here, fun k x hk hn hx => h.there k x hk hn (by rw [← e k hk]; exact hx)⟩
def homeAt (h : List V8) (j : Nat) : List V8 := (h.drop (j * 4)).take 4
def HomeB (h : List V8) (j : Nat) (b : List UInt8) : Prop := b = pad64 (homeB (homeAt h j)) ∨ (b = zero64 ∧ homeAt h j = List.replicate 4 zV8)
structure StD (S : DS) (s : Sh) (y : Su) (h0 : List V8) (l : Rl) (c : Nat) (noes : List Nm) : Prop where
 sup : SupI (secD S) y
 hx : s.x = { y with owned := s.x.owned }
 ha : y.tail = s.a
 csup : ∀ k : Int, 0 ≤ k → k < 2 → S.cache k = []
 chome : ∀ k : Int, 26 ≤ k → S.cache k = []
 home : ∀ j, j < 8 → HomeB h0 j (S.get (26 + j))
 log : LogF S s.a (framesL y.inc s.a (encL l)) c
 hn : s.n = s.a + ((framesL y.inc s.a (encL l)).length : Nat)
 tk : ∀ q ∈ l, takes q.1 q.2 = true
 cut : ∀ p ∈ beginsL s.a (encL l), cutOk p.2 p.1 y.inc
 fold : fold3 y.owned h0 [] l = (s.x.owned, s.h, s.ps)
 last : ∃ m, m ≤ l.length ∧ (framesL y.inc s.a (encL (l.take m))).length ≤ c ∧ ∀ q ∈ l.drop m, NoOut noes q
 nd : (namesP s.ps).Nodup
theorem StD.inc {S : DS} {s : Sh} {y : Su} {h0 : List V8} {l : Rl} {c : Nat} {noes : List Nm} (h : StD S s y h0 l c noes) : s.x.inc = y.inc := by rw [h.hx]
theorem StD.keep {S : DS} {s : Sh} {y : Su} {h0 : List V8} {l : Rl} {c : Nat} {noes noes2 : List Nm} {r : Rc} {x : List Wr} {fl : Bool} (h : StD S s y h0 l c noes) (ht : 1 ≤ s.n ∧ s.n + 2 ≤ 1099511627776) (hi : 0 ≤ y.inc ∧ y.inc ≤ 1048576) (hm : takes r x = true) (hr : s.n + (nOf (r.enc x).length : Nat) ≤ s.a + 24)
 (hfl : fl = true ∨ NoOut noes2 (r, x)) (hno : ∀ nm ∈ noes, nm ∈ noes2) : ∃ c2, StD (s.keepD S r x fl) (s.keep r x) y h0 (l ++ [(r, x)]) c2 noes2 := by
 have hmay : r.may x = true := by unfold takes at hm; rw [Bool.and_eq_true] at hm; exact hm.1
 have hel := enc_len hmay
 have hno2 : nOf (r.enc x).length ≤ 2 := by unfold nOf; omega
 have hcut : cutOk (r.enc x) s.n y.inc := ⟨by intro e; rw [e] at hel; simp at hel, ⟨ht.1, by omega⟩, hi, by omega, by omega⟩
 have hinc := h.inc
 have hG : framesL y.inc s.a (encL (l ++ [(r, x)])) = framesL y.inc s.a (encL l) ++ cutF (r.enc x) s.n y.inc := by
  rw [encL_append, framesL_append, ← h.hn]
  show _ ++ (cutF (r.enc x) s.n y.inc ++ []) = _
  rw [List.append_nil]
 have hlen : (framesL y.inc s.a (encL (l ++ [(r, x)]))).length = (framesL y.inc s.a (encL l)).length + nOf (r.enc x).length := by rw [hG, List.length_append, cutF_length]
 have hhn := h.hn
 have hL1 : LogF (putF S (cutF (r.enc x) s.n y.inc)) s.a (framesL y.inc s.a (encL l) ++ cutF (r.enc x) s.n y.inc) c :=
  h.log.steps _ (by rw [cutF_length]; omega) (fun i z hz => by rw [cutF_seq hz]; omega)
 rw [← hG] at hL1
 obtain ⟨e1, e2⟩ := putF_else (cutF (r.enc x) s.n y.inc) S
 have hget : ∀ k : Nat, (k < 2 ∨ 26 ≤ k) → (putF S (cutF (r.enc x) s.n y.inc)).get k = S.get k := fun k hk => get_eq (congrFun e1 k) (e2 k (by omega))
 have hbeg : beginsL s.a (encL (l ++ [(r, x)])) = beginsL s.a (encL l) ++ [(s.n, r.enc x)] := by
  rw [encL_append, beginsL_append y.inc, ← h.hn]; rfl
 have hfold : fold3 y.owned h0 [] (l ++ [(r, x)]) = (ownP s.x.owned s.ps r, onF s.h (stepO s.ps r x).2, (stepO s.ps r x).1) := by
  rw [fold3_append, h.fold]; rfl
 have hx2 : ({ s.x with owned := ownP s.x.owned s.ps r } : Su) = { y with owned := ownP s.x.owned s.ps r } := by
  have := h.hx
  generalize s.x.owned = o at this ⊢
  rw [this]
 obtain ⟨m, hm1, hm2, hm3⟩ := h.last
 have hcle := h.log.le
 cases fl with
 | true =>
   refine ⟨(framesL y.inc s.a (encL (l ++ [(r, x)]))).length, ?_⟩
   have hD : s.keepD S r x true = (putF S (cutF (r.enc x) s.n y.inc)).flush := by unfold Sh.keepD; rw [if_pos rfl, hinc]
   rw [hD]
   refine ⟨h.sup.of_eq fun k hk => ?_, hx2, h.ha, fun k _ _ => rfl, fun k _ => rfl, fun j hj => ?_, hL1.flush, ?_, ?_, ?_, hfold, ⟨(l ++ [(r, x)]).length, Nat.le_refl _, ?_, ?_⟩, names_stepO h.nd r x⟩
   ·exact hget k (.inl hk)
   ·show HomeB h0 j ((putF S (cutF (r.enc x) s.n y.inc)).get (26 + j)); rw [hget _ (.inr (by omega))]; exact h.home j hj
   ·show s.n + (nOf (r.enc x).length : Nat) = s.a + ((framesL y.inc s.a (encL (l ++ [(r, x)]))).length : Nat); rw [hlen]; omega
   ·intro q hq
    rcases List.mem_append.1 hq with hq | hq
    ·exact h.tk q hq
    ·rw [List.mem_singleton.1 hq]; exact hm
   ·show ∀ p ∈ beginsL s.a (encL (l ++ [(r, x)])), _
    rw [hbeg]; intro p hp
    rcases List.mem_append.1 hp with hp | hp
    ·exact h.cut p hp
    ·rw [List.mem_singleton.1 hp]; exact hcut
   ·rw [List.take_length]; exact Nat.le_refl _
   ·rw [List.drop_length]; intro q hq; cases hq
 | false =>
   refine ⟨c, ?_⟩
   have hD : s.keepD S r x false = putF S (cutF (r.enc x) s.n y.inc) := by unfold Sh.keepD; rw [if_neg (by decide), hinc]
   rw [hD]
   refine ⟨h.sup.of_eq fun k hk => ?_, hx2, h.ha, fun k h1 h2 => ?_, fun k hk => ?_, fun j hj => ?_, hL1, ?_, ?_, ?_, hfold, ⟨m, by rw [List.length_append]; omega, ?_, ?_⟩, names_stepO h.nd r x⟩
   ·exact hget k (.inl hk)
   ·rw [e2 k (.inl h2)]; exact h.csup k h1 h2
   ·rw [e2 k (.inr hk)]; exact h.chome k hk
   ·rw [hget _ (.inr (by omega))]; exact h.home j hj
   ·show s.n + (nOf (r.enc x).length : Nat) = s.a + ((framesL y.inc s.a (encL (l ++ [(r, x)]))).length : Nat); rw [hlen]; omega
   ·intro q hq
    rcases List.mem_append.1 hq with hq | hq
    ·exact h.tk q hq
    ·rw [List.mem_singleton.1 hq]; exact hm
   ·show ∀ p ∈ beginsL s.a (encL (l ++ [(r, x)])), _
    rw [hbeg]; intro p hp
    rcases List.mem_append.1 hp with hp | hp
    ·exact h.cut p hp
    ·rw [List.mem_singleton.1 hp]; exact hcut
   ·show (framesL y.inc s.a (encL ((l ++ [(r, x)]).take m))).length ≤ c
    rw [List.take_append_of_le_length hm1]; exact hm2
   ·rw [List.drop_append_of_le_length hm1]
    intro q hq
    rcases List.mem_append.1 hq with hq | hq
    ·obtain ⟨nm, h1, h2⟩ := hm3 q hq
     exact ⟨nm, hno nm h1, h2⟩
    ·rw [List.mem_singleton.1 hq]
     rcases hfl with hfl | hfl
     ·cases hfl
     ·exact hfl
end Go.Proofs.YtndabhdepjnbcaaGreat

namespace Go.Proofs.YtndabhdepjnbcaaGreat
open Go.RowKit Go.Sort
def rvL (x0 x1 x2 x3 : V8) (k : Nat) : List V8 := [x0, x1, x2, x3].take k ++ List.replicate (4 - k) zV8
def rvAt (x0 x1 x2 x3 : V8) : Nat → V8
 | 0 => x0
 | 1 => x1
 | 2 => x2
 | _ => x3
theorem lt4 {k : Nat} (h : k < 4) : k = 0 ∨ k = 1 ∨ k = 2 ∨ k = 3 := by omega
theorem rv_next (x0 x1 x2 x3 : V8) {k : Nat} (h : k < 4) : (hcells (rvL x0 x1 x2 x3 k)).take (k * 8) ++ bcells (v8B (rvAt x0 x1 x2 x3 k)) ++ (hcells (rvL x0 x1 x2 x3 k)).drop (k * 8 + (bcells (v8B (rvAt x0 x1 x2 x3 k))).length) = hcells (rvL x0 x1 x2 x3 (k + 1)) := by
 rcases lt4 h with rfl | rfl | rfl | rfl <;> rfl
theorem rv_get (x0 x1 x2 x3 : V8) {k : Nat} (h : k < 4) : (bcells (((valB [x0, x1, x2, x3]).drop (k * 8)).take ((valB [x0, x1, x2, x3]).length - k * 8))).take 8 = bcells (v8B (rvAt x0 x1 x2 x3 k)) := by
 rcases lt4 h with rfl | rfl | rfl | rfl <;> rfl
theorem rv_len (x0 x1 x2 x3 : V8) {k : Nat} (h : k ≤ 4) : (hcells (rvL x0 x1 x2 x3 k)).length = 32 := by
 rcases (show k = 0 ∨ k = 1 ∨ k = 2 ∨ k = 3 ∨ k = 4 by omega) with rfl | rfl | rfl | rfl | rfl <;> rfl
theorem rv_zero (x0 x1 x2 x3 : V8) : madeL [.int .u8 0, .int .u8 0, .int .u8 0, .int .u8 0, .int .u8 0, .int .u8 0, .int .u8 0, .int .u8 0] 32 = hcells (rvL x0 x1 x2 x3 0) := by kernel_rfl
theorem readV_any (v : Value) (x0 x1 x2 x3 : V8) (w : World) (hv : Bs 0 w.heap.size w v (valB [x0, x1, x2, x3])) :
 Calls Tryz.prog 65 #[v] w fun e w' => ∃ bR, e = .returned (.tuple #[.slice (some ⟨bR, 0, none⟩) 4 4, .int .i64 0]) ∧ Mem w w' [.blk bR (hcells [x0, x1, x2, x3]).toArray 53] := by
 have M := Mem.start w
 have hcap := hv.cap
 obtain ⟨bs, hbs⟩ : ∃ bs, valB [x0, x1, x2, x3] = bs := ⟨_, rfl⟩
 have hl : bs.length = 32 := by rw [← hbs]; rfl
 have hg : ∀ k, k < 4 → (bcells ((bs.drop (k * 8)).take (bs.length - k * 8))).take 8 = bcells (v8B (rvAt x0 x1 x2 x3 k)) := fun k hk => by rw [← hbs]; exact rv_get x0 x1 x2 x3 hk
 rw [hbs] at hv hcap
 refine calls_enter Tryz.func65 rfl 30 rfl rfl ?_; intro a S
 refine nxD (qG [1, 1] S ?_); clear S a; intro a S
 refine nxC (wp_seq (nxD (qG [1] S ?_))); clear S a; intro a S
 refine qY S (y_lenR (E := 5) S rfl (M.arg hv) (by kernel_rfl)) ?_; clear S a; intro a S
 (first | refine qY S (y_remN S rfl rfl (by omega)) ?_ | refine qY S (y_remZ S rfl rfl (by omega)) ?_); clear S a; intro a S
 refine qG [1] S ?_; clear S a; intro a S
 refine nxC (st_if (t := 9) S rfl ?_ ?_)
 ·clear S; intro h9 S
  rw [hl] at h9; exact absurd rfl h9
 clear S; intro h9 S
 refine st_condF S rfl (wp_skip (nxE (qG [1] S ?_))); clear S a; intro a S
 refine qY S (y_lenR (E := 5) S rfl (M.arg hv) (by kernel_rfl)) ?_; clear S a; intro a S
 refine qY S (y_quoN S rfl rfl (by omega)) ?_; clear S a; intro a S
 rw [hl] at S
 refine st_make (e := 53) (sz := 8) (by_ := 8) (zc := [.int .u8 0, .int .u8 0, .int .u8 0, .int .u8 0, .int .u8 0, .int .u8 0, .int .u8 0, .int .u8 0]) S M rfl rfl (by kernel_rfl) rfl rfl (by omega) (by omega) (by omega) (by omega) ?_; clear S M a; intro a w1 bR S M hB
 try simp only [Int.toNat_natCast, Int.reduceToNat, Nat.reduceMul] at S M
 refine qG [1] S ?_; clear S a; intro a S
 refine nxC (wp_seq (nxD (qG [1] S ?_))); clear S a; intro a S
 refine qY S (y_lenS (E := 53) S rfl (by kernel_rfl)) ?_; clear S a; intro a S
 refine qG [1] S ?_; clear S a; intro a S
 refine nxC (wp_block (wp_loop_g (fun m a w' => ∃ k : Nat, k ≤ 4 ∧ m = 4 - k ∧ Sees 30 a [(0, v), (4, .slice (some ⟨bR, 0, none⟩) 4 4), (15, .int .i64 4), (16, .int .i64 (k : Int))] ∧ Mem w w' [.blk bR (hcells (rvL x0 x1 x2 x3 k)).toArray 53]) (4) ?_ ?_))
 ·skip
  rw [show (((32 : Nat) : Int) / 8).toNat * 8 = 32 from rfl, rv_zero x0 x1 x2 x3] at M
  exact ⟨0, Nat.zero_le _, rfl, S.sub _ rfl, M⟩
 clear S M a; intro m a wl
 rintro ⟨k, hk, rfl, S, M⟩
 refine nxD (qG [1] S ?_); clear S a; intro a S
 refine nxC (wp_seq (st_fi (t := 17) S rfl ?_ ?_))
 ·clear S; intro h17 S
  refine st_condF S rfl (wp_exit (then_exit (then_exit (block_hit (nxE (qG [1, 1, 1] S ?_)))))); clear S a; intro a S
  refine nxC (wp_ret (end_two S rfl (res_tmp rfl) (res_tmp rfl) ?_))
  obtain rfl : k = 4 := by omega
  exact ⟨_, rfl, M⟩
 clear S; intro h17 S
 refine st_condT S rfl (wp_skip (then_normal (wp_seq (wp_block (nxD (qG [1, 1] S ?_)))))); clear S a; intro a S
 refine nxC (wp_regionK [8] #[false, false, false, false, false, false, false, false, false] rfl M (by kernel_rfl) ?_); clear M; intro w2 M
 refine k_pure 0 S rfl (fun w => y_move S rfl) ?_; clear S a; intro a S
 refine k_pure 1 S rfl (fun w => y_move S rfl) ?_; clear S a; intro a S
 refine k_pure 2 S rfl (fun w => y_indexS (e := 53) (sz := 8) S (by kernel_rfl) rfl rfl (by first | omega | (simp; done) | (simp; omega))) ?_; clear S a; intro a S
 try simp only [Int.toNat_natCast, Nat.mul_one, Nat.zero_add] at S
 refine k_pure 3 S rfl (fun w => y_sliceA (m := 8) (sz := 1) S (by kernel_rfl) rfl) ?_; clear S a; intro a S
 refine k_pure 4 S rfl (fun w => y_move S rfl) ?_; clear S a; intro a S
 refine k_pure 5 S rfl (fun w => y_move S rfl) ?_; clear S a; intro a S
 (first | refine k_pure 6 S rfl (fun w => y_mulN S rfl rfl (by omega)) ?_ | refine k_pure 6 S rfl (fun w => y_int S rfl rfl rfl) ?_); clear S a; intro a S
 refine k_read 7 S rfl (fun w hW => have M := M.grow hW; y_slice1R (e := 5) (sz := 1) S (by kernel_rfl) rfl ((M.arg hv)) rfl (by first | omega | (simp; done) | (simp; omega))) ?_; clear S a; intro a S
 refine k_one 8 rfl (by kernel_rfl) ?_
 refine st_copy (e := 5) (us := bcells (v8B (rvAt x0 x1 x2 x3 k))) S M 0 rfl rfl (by kernel_rfl) rfl rfl rfl (M.argW (hv.cutB (i := k * 8) (j := bs.length) (mx := capV v) (by omega) (Nat.le_refl _) hcap.1 (Nat.le_refl _))) (hg k (by omega)) (allOne_bcells _) (by rw [rv_len x0 x1 x2 x3 (by omega)]; show k * 8 + 8 ≤ 32; omega) ?_; clear S M a; intro a w3 S M
 simp only [List.set_cons_zero, List.set_cons_succ] at M
 refine wpList_nil ?_; refine then_normal ?_; refine ⟨fun h => absurd h (by decide), ?_⟩
 refine k_end (by kernel_rfl) ?_
 refine block_normal (nxF ?_)
 (first | refine qY S (y_addN S rfl rfl (by omega)) ?_ | refine qY S (y_int S rfl rfl rfl) ?_); clear S a; intro a S
 refine qG [1] S ?_; clear S a; intro a S
 refine nxC ?_
 refine ⟨4 - (k + 1), by omega, k + 1, by omega, rfl, S.sub _ rfl, ?_⟩
 rw [rv_next x0 x1 x2 x3 (by omega)] at M
 exact M
theorem zerosB_all {l : List UInt8} (h : zerosB l = true) {x : UInt8} (hx : x ∈ l) : x = 0 := by
 unfold zerosB at h; rw [List.all_eq_true] at h; simpa using h x hx
theorem homeB_len (x0 x1 x2 x3 : V8) : (homeB [x0, x1, x2, x3]).length = 36 := rfl
theorem home_zero {x0 x1 x2 x3 : V8} (h : zerosB (pad64 (homeB [x0, x1, x2, x3])) = true) : [x0, x1, x2, x3] = List.replicate 4 zV8 := by
 have key : ∀ z, z ∈ valB [x0, x1, x2, x3] → z = 0 := fun z hz => zerosB_all h (by unfold pad64 homeB sealB; simp [hz])
 have one : ∀ x : V8, (∀ z, z ∈ v8B x → z = 0) → x = zV8 := fun x hx => by
  obtain ⟨a0, a1, a2, a3, a4, a5, a6, a7⟩ := x
  have := hx a0 (by simp [v8B]); have := hx a1 (by simp [v8B]); have := hx a2 (by simp [v8B]); have := hx a3 (by simp [v8B])
  have := hx a4 (by simp [v8B]); have := hx a5 (by simp [v8B]); have := hx a6 (by simp [v8B]); have := hx a7 (by simp [v8B])
  subst_vars; rfl
 rw [one x0 fun z hz => key z (by simp [valB, hz]), one x1 fun z hz => key z (by simp [valB, hz]), one x2 fun z hz => key z (by simp [valB, hz]), one x3 fun z hz => key z (by simp [valB, hz])]; rfl
theorem home_take (x0 x1 x2 x3 : V8) : (pad64 (homeB [x0, x1, x2, x3])).take 32 = valB [x0, x1, x2, x3] := by
 unfold pad64 homeB sealB
 rw [List.append_assoc, List.take_append_of_le_length (by rw [valB_len]; exact Nat.le_refl _), List.take_of_length_le (by rw [valB_len]; exact Nat.le_refl _)]
theorem home_opn (x0 x1 x2 x3 : V8) : opnB (pad64 (homeB [x0, x1, x2, x3])) 32 = true := by
 have hl := homeB_len x0 x1 x2 x3
 have e1 : (pad64 (homeB [x0, x1, x2, x3])).take (32 + 4) = homeB [x0, x1, x2, x3] := by
  unfold pad64
  rw [List.take_append_of_le_length (by rw [hl]; exact Nat.le_refl _), List.take_of_length_le (by rw [hl]; exact Nat.le_refl _)]
 have e2 : (pad64 (homeB [x0, x1, x2, x3])).drop (32 + 4) = List.replicate 28 0 := by
  unfold pad64
  rw [List.drop_append_of_le_length (by rw [hl]; exact Nat.le_refl _), List.drop_of_length_le (by rw [hl]; exact Nat.le_refl _), List.nil_append]; rfl
 unfold opnB
 rw [e1, e2, zerosB_rep, openB_true (show openOk (homeB [x0, x1, x2, x3]) from ⟨_, rfl⟩)]; rfl
theorem getF_any {wc w : World} {A E : List Ent} {b : Nat} {S0 : DS} (k : Nat) (x0 x1 x2 x3 : V8) (hE : DkE b S0 E) (M : Mem wc w (A ++ E)) (hup : S0.down = false) (hw : ∀ k, (S0.cache k).length ≤ 1000000) (hk : k < 8) (hz : S0.get (26 + k) = pad64 (homeB [x0, x1, x2, x3]) ∨ (S0.get (26 + k) = zero64 ∧ [x0, x1, x2, x3] = List.replicate 4 zV8)) :
 Calls Tryz.prog 38 #[.pointer (some ⟨b, 0, none⟩), .int .i64 (k : Int)] w fun e w' => ∃ bN T, e = .returned (.tuple #[.slice (some ⟨bN, 0, none⟩) 4 4, .int .i64 0]) ∧ Mem wc w' (.blk bN (hcells [x0, x1, x2, x3]).toArray T :: (A ++ E)) := by
 have hv32 : (valB [x0, x1, x2, x3]).length = 32 := rfl
 refine calls_enter Tryz.func38 rfl 40 rfl rfl ?_; intro a S
 refine nxD (qG [1, 1] S ?_); clear S a; intro a S
 refine nxC (wp_seq (nxD (qG [1] S ?_))); clear S a; intro a S
 refine qY S (y_eqlPS (by kernel_rfl) S rfl) ?_; clear S a; intro a S
 refine nxC (st_condF S rfl (wp_skip (then_normal (wp_seq (nxD (qG [1] S ?_)))))); clear S a; intro a S
 refine qQ (xs := [.tmp 13]) S (qE Tryz.func63) rfl (isH_any _ _) M ?_; clear S M a; intro a w1 S hK M
 refine qG [1] S ?_; clear S a; intro a S
 refine nxC (st_if (t := 15) S rfl ?_ ?_)
 ·clear S; intro h15 S
  exfalso; simp at h15; omega
 clear S; intro h15 S
 refine st_condF S rfl (wp_skip (nxE (qG [1, 1] S ?_))); clear S a; intro a S
 (first | refine qY S (y_addN S rfl rfl (by omega)) ?_ | refine qY S (y_int S rfl rfl rfl) ?_); clear S a; intro a S
 rw [show (26 : Int) + (k : Int) = ((26 + k : Nat) : Int) by omega] at S
 refine qC (xs := [.tmp 17, .tmp 19]) S (qE Tryz.func43) rfl (dread_any (k := 26 + k) hE M hup (by omega) (hw _)) ?_
 rintro _ w2 ⟨v1, rfl, hF, hq64⟩; refine ⟨_, rfl, ?_⟩; clear S a; intro a S
 obtain ⟨lo, hi2, -, M1⟩ := M.pushFresh hF
 obtain ⟨q, hqb⟩ : ∃ q, S0.get (26 + k) = q := ⟨_, rfl⟩
 rw [hqb] at M1 hq64 hz
 clear M hF
 have M := M1
 clear M1
 refine qG [1, 1, 1, 1, 1] S ?_; clear S a; intro a S
 refine nxC (wp_seq (nxD (qG [1, 1] S ?_))); clear S a; intro a S
 refine nxC (st_if (t := 24) S rfl ?_ ?_)
 ·clear S; intro h24 S
  exact absurd rfl h24
 clear S; intro h24 S
 refine st_condF S rfl (wp_skip (then_normal (wp_seq (nxD (qG [1] S ?_))))); clear S a; intro a S
 refine qQ (xs := [.tmp 26]) S (qE Tryz.func44) rfl (zerosH_any v1 q _ (M.readAll 0 rfl (by unfold maxLen; omega))) M ?_; clear S M a; intro a w3 S hK M
 refine nxC (st_if (t := 27) S rfl ?_ ?_)
 ·clear S; intro h27 S
  refine st_condT S rfl (nxD (st_alloc S M rfl rfl #[.int .u8 0, .int .u8 0, .int .u8 0, .int .u8 0, .int .u8 0, .int .u8 0, .int .u8 0, .int .u8 0, .int .u8 0, .int .u8 0, .int .u8 0, .int .u8 0, .int .u8 0, .int .u8 0, .int .u8 0, .int .u8 0, .int .u8 0, .int .u8 0, .int .u8 0, .int .u8 0, .int .u8 0, .int .u8 0, .int .u8 0, .int .u8 0, .int .u8 0, .int .u8 0, .int .u8 0, .int .u8 0, .int .u8 0, .int .u8 0, .int .u8 0, .int .u8 0] (by kernel_rfl) ?_)); clear S M a; intro a w4 bN S M hB
  refine nxA (qY S (y_sliceA (m := 4) (sz := 8) S (by kernel_rfl) rfl) ?_); clear S a; intro a S
  refine qG [1, 1] S ?_; clear S a; intro a S
  replace S := S.keep [0, 1, 12, 15, 6, 7, 24, 27, 8, 4, 5]
  refine nxC (wp_ret (then_ret (end_two S rfl (res_tmp rfl) (res_tmp rfl) ?_)))
  have hx : [x0, x1, x2, x3] = List.replicate 4 zV8 := by
   rcases hz with hz | ⟨-, hz⟩
   ·exact home_zero (by rw [← hz]; exact h27)
   ·exact hz
  rw [hx]
  exact ⟨_, _, rfl, M.sub (.cons_cons _ (.cons _ (List.Sublist.refl _)))⟩
 clear S; intro h27 S
 refine st_condF S rfl (wp_skip (then_normal (wp_seq ?_)))
 have hq : q = pad64 (homeB [x0, x1, x2, x3]) := by
  rcases hz with hz | ⟨hz, -⟩
  ·exact hz
  ·rw [hz, show zerosB zero64 = true from zerosB_rep _] at h27; cases h27
 refine wp_region_lit (qG [1] S ?_); clear S a; intro a S
 refine qC (xs := [.tmp 30, .const (.int .i64 36)]) S (qE Tryz.func64) rfl (openH_any v1 q 32 _ (M.readAll 0 rfl (by unfold maxLen; omega)) (by omega) (by omega)) ?_
 rintro _ w5 ⟨v2, rfl, hK, hF, hN⟩; refine ⟨_, rfl, ?_⟩; clear S a; intro a S
 replace hF := hF (by rw [hq]; exact home_opn ..)
 rw [hq, home_opn] at S
 rw [hq, home_take] at hF
 obtain ⟨lo4, hi4, -, M1⟩ := M.pushFresh hF; clear M hF hN; have M := M1; clear M1
 refine qG [1, 1, 1, 1, 1] S ?_; clear S a; intro a S
 replace S := S.keep [0, 1, 4, 5, 12, 15, 6, 7, 24, 27, 9, 10]
 refine nxC (wp_seq (nxD (qG [1, 1] S ?_))); clear S a; intro a S
 refine nxC (st_if (t := 35) S rfl ?_ ?_)
 ·clear S; intro h35 S
  cases h35
 clear S; intro h35 S
 refine st_condF S rfl (wp_skip (nxE (qG [1] S ?_))); clear S a; intro a S
 refine qC (xs := [.tmp 36]) S (qE Tryz.func65) rfl (readV_any v2 x0 x1 x2 x3 _ (M.readAll 0 rfl (by unfold maxLen; omega))) ?_
 rintro _ w6 ⟨bV, rfl, MV⟩; refine ⟨_, rfl, ?_⟩; clear S a; intro a S
 have M1 := M.join MV; clear M MV; have M := M1; clear M1
 simp only [List.cons_append, List.nil_append] at M
 refine qG [1, 1, 1, 1] S ?_; clear S a; intro a S
 refine nxC (wp_ret (end_two S rfl (res_tmp rfl) (res_tmp rfl) ?_))
 exact ⟨_, _, rfl, M.sub (.cons_cons _ (.cons _ (.cons _ (List.Sublist.refl _))))⟩
end Go.Proofs.YtndabhdepjnbcaaGreat

namespace Go.Proofs.YtndabhdepjnbcaaGreat
open Go.RowKit Go.Sort
def hmN (h : List V8) (k : Nat) : List V8 := h.take (k * 4) ++ List.replicate (32 - k * 4) zV8
theorem hmN_len {h : List V8} (hl : h.length = 32) {k : Nat} (hk : k ≤ 8) : (hmN h k).length = 32 := by
 unfold hmN; rw [List.length_append, List.length_take, List.length_replicate]; omega
theorem hmN_all {h : List V8} (hl : h.length = 32) : hmN h 8 = h := by
 unfold hmN; rw [List.take_of_length_le (by omega)]; simp
theorem home_mid {P Q : List Value} {h : List V8} {k : Nat} (hl : h.length = 32) (hk : k < 8) (hp : P.length = 15) :
 (P ++ (hcells (hmN h k) ++ Q)).take (15 + k * 32) ++ hcells (homeAt h k) ++ (P ++ (hcells (hmN h k) ++ Q)).drop (15 + k * 32 + (hcells (homeAt h k)).length) = P ++ (hcells (hmN h (k + 1)) ++ Q) := by
 have hA : (hcells (h.take (k * 4))).length = k * 32 := by rw [hcells_length, List.length_take]; omega
 have hh : (homeAt h k).length = 4 := by unfold homeAt; rw [List.length_take, List.length_drop]; omega
 have hB : (hcells (homeAt h k)).length = 32 := by rw [hcells_length, hh]
 have hZ : (hcells (List.replicate 4 zV8)).length = 32 := rfl
 have e1 : hcells (hmN h k) = hcells (h.take (k * 4)) ++ (hcells (List.replicate 4 zV8) ++ hcells (List.replicate (32 - (k + 1) * 4) zV8)) := by
  rw [← hcells_app, List.replicate_append_replicate, ← hcells_app]
  unfold hmN
  rw [show 4 + (32 - (k + 1) * 4) = 32 - k * 4 by omega]
 have e2 : hcells (hmN h (k + 1)) = hcells (h.take (k * 4)) ++ (hcells (homeAt h k) ++ hcells (List.replicate (32 - (k + 1) * 4) zV8)) := by
  rw [← hcells_app, ← hcells_app]
  unfold hmN homeAt
  rw [← List.append_assoc, ← List.take_add, show (k + 1) * 4 = k * 4 + 4 by omega]
 obtain ⟨C, hC⟩ : ∃ C, hcells (List.replicate (32 - (k + 1) * 4) zV8) = C := ⟨_, rfl⟩
 rw [e1, e2, hB, hC]
 obtain ⟨A, hA2⟩ : ∃ A, hcells (h.take (k * 4)) = A := ⟨_, rfl⟩
 obtain ⟨Z, hZ2⟩ : ∃ Z, hcells (List.replicate 4 zV8) = Z := ⟨_, rfl⟩
 rw [hA2] at hA ⊢
 rw [hZ2] at hZ ⊢
 have t : P ++ ((A ++ (Z ++ C)) ++ Q) = (P ++ A) ++ (Z ++ (C ++ Q)) := by simp
 have d : P ++ ((A ++ (Z ++ C)) ++ Q) = (P ++ A ++ Z) ++ (C ++ Q) := by simp
 have h1 : (P ++ ((A ++ (Z ++ C)) ++ Q)).take (15 + k * 32) = P ++ A := by rw [t, List.take_append_of_le_length (by rw [List.length_append]; omega), List.take_of_length_le (by rw [List.length_append]; omega)]
 have h2 : (P ++ ((A ++ (Z ++ C)) ++ Q)).drop (15 + k * 32 + 32) = C ++ Q := by rw [d, List.drop_append_of_le_length (by rw [List.length_append, List.length_append]; omega), List.drop_of_length_le (by rw [List.length_append, List.length_append]; omega), List.nil_append]
 rw [h1, h2]; simp
theorem stX_put (x : Su) (dv : Value) {h : List V8} {k : Nat} (hl : h.length = 32) (hk : k < 8) : ((stX x 0 0 (hmN h k) 0).cellsL dv).take (15 + k * 32) ++ hcells (homeAt h k) ++ ((stX x 0 0 (hmN h k) 0).cellsL dv).drop (15 + k * 32 + (hcells (homeAt h k)).length) = (stX x 0 0 (hmN h (k + 1)) 0).cellsL dv := home_mid hl hk rfl
theorem stX_start (x : Su) (h : List V8) : stX x 0 0 (hmN h 0) 0 = stSu x 0 0 := rfl
def OpenG (wc : World) (A E : List Ent) (S0 : DS) (x : Su) (h : List V8) (l0 : Rl) (e : Ending) (w' : World) : Prop :=
 ∃ (s : St) (ps : Pl) (da : Option Addr) (dc lo hi : Nat) (cs : List Value) (es : List Ent), e = .returned (.tuple #[.agg (s.cellsL (.slice da ps.length dc)).toArray, .int .i64 0]) ∧
  Mem wc w' (rowE lo hi 75 6 (.slice da ps.length dc) ps.length cs :: (es ++ (A ++ E))) ∧ PrBk cs ps es ∧ s.ok ∧ ps.length ≤ 24 ∧ foldS (stX x x.tail (scanG S0 x.tail).next h 0) [] l0 = (s, ps)
set_option maxHeartbeats 4000000 in
set_option maxRecDepth 10000 in
theorem openG_any {wc w : World} {A E : List Ent} {b : Nat} {S0 : DS} (x : Su) (h : List V8) (l0 : Rl) (hl : h.length = 32) (hE : DkE b S0 E) (M : Mem wc w (A ++ E)) (hup : S0.down = false) (hw : ∀ k, (S0.cache k).length ≤ 1000000) (hz : ∀ k, k < 8 → HomeB h k (S0.get (26 + k))) (hg : gsR (secD S0) = (x, 0)) (hrec : Recs l0 ((scanG S0 x.tail).l.map (·.2))) :
 Calls Tryz.prog 26 #[.pointer (some ⟨b, 0, none⟩)] w (OpenG wc A E S0 x h l0) := by
 refine calls_enter Tryz.func26 rfl 92 rfl rfl ?_; intro a S
 refine nxD (st_alloc S M rfl rfl (zSt.cellsL (.slice none 0 0)).toArray (by kernel_rfl) ?_); clear S M a; intro a w1 bZ S M hB
 refine qG [1] S ?_; clear S a; intro a S
 refine nxC (wp_seq (nxD (qG [1] S ?_))); clear S a; intro a S
 refine qY S (y_eqlPS (by kernel_rfl) S rfl) ?_; clear S a; intro a S
 refine nxC (st_condF S rfl (wp_skip (nxE (qG [1] S ?_)))); clear S a; intro a S
 refine qC (xs := [.tmp 20]) S (qE Tryz.func27) rfl (getH_any (A := _ :: A) hE M hup hw) ?_
 rintro _ w2 ⟨rfl, M1⟩; refine ⟨_, rfl, ?_⟩; clear S M a; intro a S; have M := M1; clear M1
 simp only [List.cons_append] at M
 rw [hg] at S
 refine qG [1, 1, 1] S ?_; clear S a; intro a S
 refine st_alloc S M rfl rfl #[.int .i64 0, .int .i64 0, .int .i64 0, .int .i64 0, .int .i64 0, .int .i64 0, .int .i64 0, .int .i64 0, .int .i64 0, .int .i64 0, .int .i64 0, .int .i64 0, .int .i64 0] (by kernel_rfl) ?_; clear S M a; intro a w3 bU S M hB
 refine qS (sz := 13) (us := [_, _, _, _, _, _, _, _, _, _, _, _, _]) S M 0 ?_; clear M; intro w4 M
 refine qG [1] S ?_; clear S a; intro a S
 refine nxC (wp_seq (nxD (qG [1, 1] S ?_))); clear S a; intro a S
 refine nxC (st_if (t := 25) S rfl ?_ ?_)
 ·clear S; intro h25 S
  exact absurd rfl h25
 clear S; intro h25 S
 refine st_condF S rfl (wp_skip (nxE (qY S (y_loadAgg (cs := [_, _, _, _, _, _, _, _, _, _, _, _, _]) S (by kernel_rfl) rfl rfl (M.cellsAt (k := 13) 0 rfl rfl)) ?_))); clear S a; intro a S
 refine qY S (y_build (ps := [(0, .tmp 28)]) (pl := [(0, 13), (13, 2), (15, 256), (271, 1), (272, 1)]) (z := zSt.cellsL (.slice none 0 0)) (cs := (stSu x 0 0).cellsL (.slice none 0 0)) S (by kernel_rfl) rfl ((fillL_one (us := x.cellsL) (off := 0) (sz := 13) rfl rfl rfl (by rw [St.len zSt_ok]; exact (by decide : 0 + 13 ≤ 273))).trans (by rw [stSu_fill]))) ?_; clear S a; intro a S
 refine st_alloc S M rfl rfl (zSt.cellsL (.slice none 0 0)).toArray (by kernel_rfl) ?_; clear S M a; intro a w5 bX S M hB
 refine st_storeAll (sz := 273) S M 0 rfl (by kernel_rfl) rfl rfl (by with_reducible first | exact St.len zSt_ok _ | exact St.len (stSu_ok _ _ _) _ | exact St.len (stX_ok _ _ _ _ (hmN_len hl (by omega))) _ | exact St.len (stX_ok _ _ _ _ hl) _ | exact St.len hs _ | exact St.len hs2 _) (by with_reducible first | exact St.one zSt_ok _ rfl | exact St.one (stSu_ok _ _ _) _ rfl | exact St.one (stX_ok _ _ _ _ (hmN_len hl (by omega))) _ rfl | exact St.one (stX_ok _ _ _ _ hl) _ rfl | exact St.one hs _ rfl | exact St.one hs2 _ rfl) rfl (by with_reducible first | exact St.len zSt_ok _ | exact St.len (stSu_ok _ _ _) _ | exact St.len (stX_ok _ _ _ _ (hmN_len hl (by omega))) _ | exact St.len (stX_ok _ _ _ _ hl) _ | exact St.len hs _ | exact St.len hs2 _) ?_; clear M; intro w6 M
 simp only [List.set_cons_zero, List.set_cons_succ] at M
 refine nxC (wp_seq (nxD (qG [1] S ?_))); clear S a; intro a S
 refine nxC (wp_block (wp_loop_g (fun m a w' => ∃ (k : Nat), k ≤ 8 ∧ m = 8 - k ∧ Sees 92 a [(0, .pointer (some ⟨b, 0, none⟩)), (2, .pointer (some ⟨bZ, 0, none⟩)), (4, .pointer (some ⟨bU, 0, none⟩)), (6, .pointer (some ⟨bX, 0, none⟩)), (30, .int .i64 (k : Int))] ∧ Mem wc w' (.blk bX ((stX x 0 0 (hmN h k) 0).cellsL (.slice none 0 0)).toArray 57 :: .blk bU x.cellsL.toArray 49 :: .blk bZ (zSt.cellsL (.slice none 0 0)).toArray 57 :: (A ++ E))) (8) ?_ ?_))
 ·skip
  exact ⟨0, by omega, rfl, S.sub _ rfl, by rw [stX_start]; exact M⟩
 clear S M a; intro m a wl
 rintro ⟨k, hk, rfl, S, M⟩
 refine nxD (qG [1] S ?_); clear S a; intro a S
 refine nxC (wp_seq (st_if (t := 31) S rfl ?_ ?_))
 ·clear S; intro h31 S
  refine st_condT S rfl (wp_skip (then_normal (wp_seq (wp_block (nxD (qG [1, 1] S ?_)))))); clear S a; intro a S
  refine nxC (wp_seq ?_)
  obtain ⟨y0, y1, y2, y3, hy⟩ := hcells4 hl (j := k) (by omega)
  have hzk := hz k (by omega)
  have hy2 : homeAt h k = [y0, y1, y2, y3] := hy
  unfold HomeB at hzk
  rw [hy2] at hzk
  refine wp_region_lit (qG [1, 1] S ?_); clear S a; intro a S
  refine qC (xs := [.tmp 34, .tmp 35]) S (qE Tryz.func38) rfl (getF_any (A := _ :: _ :: _ :: A) k y0 y1 y2 y3 hE M hup hw (by omega) hzk) ?_
  rintro _ w7 ⟨bN, tN, rfl, M1⟩; refine ⟨_, rfl, ?_⟩; clear S M a; intro a S; have M := M1; clear M1
  simp only [List.cons_append] at M
  refine qG [1, 1, 1, 1, 1] S ?_; clear S a; intro a S
  refine nxC (wp_seq (nxD (qG [1, 1] S ?_))); clear S a; intro a S
  refine nxC (st_if (t := 40) S rfl ?_ ?_)
  ·clear S; intro h40 S
   exact absurd rfl h40
  clear S; intro h40 S
  refine st_condF S rfl (wp_skip (nxF (qG [16, 1] S ?_))); clear S a; intro a S
  (first | refine qY S (y_mulN S rfl rfl (by omega)) ?_ | refine qY S (y_int S rfl rfl rfl) ?_); clear S a; intro a S
  refine qG [1] S ?_; clear S a; intro a S
  (first | refine qY S (y_addN S rfl rfl (by omega)) ?_ | refine qY S (y_int S rfl rfl rfl) ?_); clear S a; intro a S
  (first | refine qY S (y_mulN S rfl rfl (by omega)) ?_ | refine qY S (y_int S rfl rfl rfl) ?_); clear S a; intro a S
  refine qY S (y_sliceA2 (m := 32) (sz := 8) S (by kernel_rfl) rfl rfl rfl (by first | omega | (simp; done) | (simp; omega))) ?_; clear S a; intro a S
  refine qG [1] S ?_; clear S a; intro a S
  have hus : (hcells [y0, y1, y2, y3]).length = 32 := rfl
  refine st_copyN (e := 53) (sz := 8) (us := hcells [y0, y1, y2, y3]) S M 1 rfl rfl (by kernel_rfl) rfl rfl rfl (M.cellsAt (k := 32) 0 rfl rfl) (by rw [hus]; simp only [Nat.min_def]; split <;> omega) (allOne_hcells _) (by rw [St.len (stX_ok _ _ _ _ (hmN_len hl (by omega))), hus]; exact (show 0 + 15 + ((k : Int) * 4).toNat * 8 + 32 ≤ 273 by omega)) ?_
  clear S M a; intro a wy S M
  rw [show 0 + 15 + ((k : Int) * 4).toNat * 8 = 15 + k * 32 by omega] at M
  simp only [List.set_cons_zero, List.set_cons_succ] at M
  replace S := S.keep [0, 2, 4, 6, 30, 31, 7, 8, 9, 40]
  refine wpList_nil (block_normal (nxF ?_))
  (first | refine qY S (y_addN S rfl rfl (by omega)) ?_ | refine qY S (y_int S rfl rfl rfl) ?_); clear S a; intro a S
  refine qG [1] S ?_; clear S a; intro a S
  refine nxC ?_
  skip
  replace M := M.drop 0
  simp only [List.eraseIdx_cons_succ, List.eraseIdx_cons_zero] at M
  refine ⟨8 - (k + 1), by omega, k + 1, by omega, rfl, S.sub _ rfl, ?_⟩
  rw [← hy2] at M
  rw [show (stX x 0 0 (hmN h (k + 1)) 0).cellsL (.slice none 0 0) = _ from (stX_put x (.slice none 0 0) hl (by omega)).symm]
  exact M
 clear S; intro h31 S
 refine st_condF S rfl (wp_exit (then_exit (then_exit (block_hit (then_normal (wp_seq ?_))))))
 obtain rfl : k = 8 := by omega
 rw [hmN_all hl] at M
 have htl := gsR_tail hg
 obtain ⟨sc, hsc⟩ : ∃ sc, scanG S0 x.tail = sc := ⟨_, rfl⟩
 refine wp_region_lit (qR [1, 2, 2] S M ?_); clear S a; intro a S
 refine qC (xs := [.tmp 54, .tmp 56]) S (qE Tryz.func39) rfl (Scan_anyG (A := _ :: _ :: _ :: A) x.tail hE M hup hw htl) ?_
 rintro _ w8 ⟨rs, ra, rc, rlo, rhi, rfl, hrs, h90, h24, M1⟩; refine ⟨_, rfl, ?_⟩; clear S M a; intro a S
 have M := M1.perm (perm_r1 (es := rs.map RB.ent))
 simp only [List.append_eq] at M
 clear M1
 rw [hsc] at hrs S
 refine qG [1, 1, 1, 1] S ?_; clear S a; intro a S
 refine st_alloc S M rfl rfl #[.int .i64 0, .int .i64 0] (by kernel_rfl) ?_; clear S M a; intro a w9 bL S M hB
 refine qG [1] S ?_; clear S a; intro a S
 refine qS (sz := 2) (us := [_, _]) S M 0 ?_; clear M; intro w10 M
 refine qG [1] S ?_; clear S a; intro a S
 refine nxC (wp_seq (nxD (qG [1, 1] S ?_))); clear S a; intro a S
 refine nxC (st_if (t := 62) S rfl ?_ ?_)
 ·clear S; intro h62 S
  exact absurd rfl h62
 clear S; intro h62 S
 refine st_condF S rfl (wp_skip (nxE (qY S (y_loadAgg (cs := [_, _]) S (by kernel_rfl) rfl rfl (M.cellsAt (k := 2) 0 rfl rfl)) ?_))); clear S a; intro a S
 refine qG [14] S ?_; clear S a; intro a S
 refine st_store (sz := 2) (us := [_, _]) S M 1 rfl (by kernel_rfl) rfl rfl rfl rfl rfl rfl (by rw [St.len (stX_ok _ _ _ _ hl)]; exact (by decide : 15 ≤ 273)) ?_; clear M; intro w11 M
 simp only [putL, List.set_cons_zero, List.set_cons_succ, Nat.reduceAdd] at M
 refine nxC (wp_seq (wp_seq ?_))
 rw [stX_setlog] at M
 replace M := M.drop 0
 simp only [List.eraseIdx_cons_succ, List.eraseIdx_cons_zero] at M
 replace M := M.drop 1
 simp only [List.eraseIdx_cons_succ, List.eraseIdx_cons_zero] at M
 obtain ⟨dlo, dhi, M1⟩ := M.nilRow 75 6
 clear M
 obtain ⟨F0, hF0⟩ : ∃ F0, F0 = rowE rlo rhi 101 1 (.slice ra rs.length rc) rs.length (rs.map RB.val) :: (rs.map RB.ent ++ (A ++ E)) := ⟨_, rfl⟩
 have hRow : rowE rlo rhi 101 1 (.slice ra rs.length rc) rs.length (rs.map RB.val) ∈ F0 := by rw [hF0]; exact List.mem_cons_self ..
 have hEnt : ∀ r ∈ rs, r.ent ∈ F0 := fun r hr => by rw [hF0]; exact List.mem_cons_of_mem _ (List.mem_append_left _ (List.mem_map_of_mem hr))
 have hSub : (A ++ E).Sublist F0 := by rw [hF0]; exact .cons _ (List.sublist_append_right _ _)
 rw [← hF0] at M1
 have M : Mem wc w11 (.blk bX ((stX x x.tail sc.next h 0).cellsL (.slice none ([] : Pl).length 0)).toArray 57 :: .blk bZ (zSt.cellsL (.slice none 0 0)).toArray 57 :: rowE dlo dhi 75 6 (.slice none ([] : Pl).length 0) ([] : Pl).length [] :: ([] ++ F0)) := M1.perm (List.perm_middle (l₁ := [_, _])).symm
 clear M1 hF0
 have hle : rs.length ≤ 24 := h24
 have hll : l0.length = rs.length := by rw [hrec.len, hsc, ← hrs, List.length_map]
 refine wp_region_lit (qG [1] S ?_); clear S a; intro a S
 refine qY S (y_lenS (E := 101) S rfl (by kernel_rfl)) ?_; clear S a; intro a S
 refine qG [1] S ?_; clear S a; intro a S
 refine nxC (wp_block (wp_loop_g (fun m a w' => ∃ (k : Nat) (s : St) (ps : Pl) (da : Option Addr) (dc dlo dhi : Nat) (cs : List Value) (es : List Ent), k ≤ rs.length ∧ m = rs.length - k ∧ s.ok ∧ ps.length ≤ k ∧ foldS (stX x x.tail sc.next h 0) [] (l0.take k) = (s, ps) ∧ PrBk cs ps es ∧ Sees 92 a [(2, .pointer (some ⟨bZ, 0, none⟩)), (6, .pointer (some ⟨bX, 0, none⟩)), (67, .slice ra rs.length rc), (68, .int .i64 (rs.length : Int)), (69, .int .i64 (k : Int))] ∧ Mem wc w' (.blk bX (s.cellsL (.slice da ps.length dc)).toArray 57 :: .blk bZ (zSt.cellsL (.slice none 0 0)).toArray 57 :: rowE dlo dhi 75 6 (.slice da ps.length dc) ps.length cs :: (es ++ F0))) (rs.length) ?_ ?_))
 ·skip
  exact ⟨0, stX x x.tail sc.next h 0, [], none, 0, dlo, dhi, [], [], Nat.zero_le _, rfl, stX_ok _ _ _ _ hl, Nat.le_refl _, rfl, PrBk.nil', S.sub _ rfl, M⟩
 clear S M a; intro m a wl
 rintro ⟨k, s, ps, da, dc, dlo, dhi, cs, es, hk, rfl, hs, hpl, hfo, hBk, S, M⟩
 have hSub2 : (A ++ E).Sublist (es ++ F0) := hSub.trans (List.sublist_append_right _ _)
 refine nxD (qG [1] S ?_); clear S a; intro a S
 refine nxC (wp_seq (st_fi (t := 70) S rfl ?_ ?_))
 ·clear S; intro h70 S
  refine st_condF S rfl (wp_exit (then_exit (then_exit (block_hit (then_normal (wp_seq ?_))))))
  obtain rfl : k = rs.length := by omega
  rw [List.take_of_length_le (by omega)] at hfo
  refine wp_region_lit (qY S (y_loadAgg (k := 273) (cs := _) S (by kernel_rfl) rfl (by with_reducible first | exact St.len zSt_ok _ | exact St.len (stSu_ok _ _ _) _ | exact St.len (stX_ok _ _ _ _ (hmN_len hl (by omega))) _ | exact St.len (stX_ok _ _ _ _ hl) _ | exact St.len hs _ | exact St.len hs2 _) (M.cellsAt 0 rfl cutL_all)) ?_); clear S a; intro a S
  refine st_storeAll (sz := 273) S M 1 rfl (by kernel_rfl) rfl rfl (by with_reducible first | exact St.len zSt_ok _ | exact St.len (stSu_ok _ _ _) _ | exact St.len (stX_ok _ _ _ _ (hmN_len hl (by omega))) _ | exact St.len (stX_ok _ _ _ _ hl) _ | exact St.len hs _ | exact St.len hs2 _) (by with_reducible first | exact St.one zSt_ok _ rfl | exact St.one (stSu_ok _ _ _) _ rfl | exact St.one (stX_ok _ _ _ _ (hmN_len hl (by omega))) _ rfl | exact St.one (stX_ok _ _ _ _ hl) _ rfl | exact St.one hs _ rfl | exact St.one hs2 _ rfl) rfl (by with_reducible first | exact St.len zSt_ok _ | exact St.len (stSu_ok _ _ _) _ | exact St.len (stX_ok _ _ _ _ (hmN_len hl (by omega))) _ | exact St.len (stX_ok _ _ _ _ hl) _ | exact St.len hs _ | exact St.len hs2 _) ?_; clear M; intro w17 M
  simp only [List.set_cons_zero, List.set_cons_succ] at M
  refine qG [1] S ?_; clear S a; intro a S
  refine nxC (wp_ret (end_two S rfl (res_agg (k := 273) (cs := _) (by kernel_rfl) rfl (by with_reducible first | exact St.len zSt_ok _ | exact St.len (stSu_ok _ _ _) _ | exact St.len (stX_ok _ _ _ _ (hmN_len hl (by omega))) _ | exact St.len (stX_ok _ _ _ _ hl) _ | exact St.len hs _ | exact St.len hs2 _) (M.cellsAt 1 rfl cutL_all)) (res_tmp rfl) ?_))
  exact ⟨s, ps, da, dc, dlo, dhi, cs, es, rfl, M.sub (.cons _ (.cons _ (.cons_cons _ ((List.Sublist.refl es).append hSub)))), hBk, hs, by omega, by rw [hsc]; exact hfo⟩
 clear S; intro h70 S
 refine st_condT S rfl (wp_skip (then_normal (wp_seq (wp_block (wp_seq ?_)))))
 have hkl : k < rs.length := by omega
 obtain ⟨r, hr⟩ : ∃ r, rs[k]? = some r := ⟨_, List.getElem?_eq_getElem hkl⟩
 have hrm := List.mem_of_getElem? hr
 have hr90 := h90 r hrm
 obtain ⟨p, hp⟩ : ∃ p, l0[k]? = some p := ⟨_, List.getElem?_eq_getElem (by omega)⟩
 have hpr := hrec.get k p r.bs hp (by rw [hsc, ← hrs, List.getElem?_map, hr]; rfl)
 have hpm : p.1.may p.2 = true := by
  have h2 := hpr.2
  unfold takes at h2
  cases h3 : p.1.may p.2 with
  | true => rfl
  | false => rw [h3] at h2; cases h2
 refine wp_region_lit (qY S (y_indexR (e := 101) (sz := 1) S (by kernel_rfl) rfl ((M.readIn (.tail _ (.tail _ (.tail _ (List.mem_append_right _ hRow)))) (by unfold maxLen; omega))) rfl (by first | omega | (simp; done) | (simp; omega))) ?_); clear S a; intro a S
 try simp only [Int.toNat_natCast, Nat.mul_one, Nat.zero_add] at S
 refine qY S (y_load S (by kernel_rfl) rfl ((M.readIn (.tail _ (.tail _ (.tail _ (List.mem_append_right _ hRow)))) (by unfold maxLen; omega)).at_.one k (by rw [List.getElem?_map, hr]; rfl))) ?_; clear S a; intro a S
 refine qG [1] S ?_; clear S a; intro a S
 refine nxA (qG [1] S ?_); clear S a; intro a S
 refine qC (xs := [.tmp 74]) S (qE Tryz.func40) rfl (readR_any r.val r.bs _ (M.readIn (.tail _ (.tail _ (.tail _ (List.mem_append_right _ (hEnt r hrm))))) (by unfold maxLen; omega))) ?_
 rintro _ w12 hP; obtain ⟨q, wx, wa, wcp, c, rfl, hF, h8, hs31, hcc⟩ := ReadRP.form hP; refine ⟨_, rfl, ?_⟩; clear S a; intro a S
 obtain ⟨wlo, whi, -, M1⟩ := M.pushFresh hF
 clear M hP hF
 have M := M1
 clear M1
 obtain ⟨rfl, rfl, rfl⟩ : c = 0 ∧ q = p.1 ∧ wx = p.2 := by
  rcases hcc with ⟨h1, h2, h3⟩ | ⟨-, -, -, h4⟩
  ·have := enc_inj h2 hpm (rest := []) (by rw [h3, hpr.1, List.append_nil])
   exact ⟨h1, this.1, this.2.1⟩
  ·exact absurd hpr.1 (h4 _ _ hpm)
 refine qG [1, 1, 1] S ?_; clear S a; intro a S
 refine st_alloc S M rfl rfl #[.int .i8 0, .int .i64 0, .int .i64 0, .int .i64 0, .bool false, .slice none 0 0, .int .i64 0, .int .i64 0, .int .i64 0, .int .i64 0, .int .i64 0, .int .i64 0] (by kernel_rfl) ?_; clear S M a; intro a w13 bY S M hB
 refine qS (sz := 12) (us := [_, _, _, _, _, _, _, _, _, _, _, _]) S M 0 ?_; clear M; intro w14 M
 refine qG [1] S ?_; clear S a; intro a S
 refine nxC (wp_seq (nxD (qG [1, 1] S ?_))); clear S a; intro a S
 refine nxC (st_if (t := 79) S rfl ?_ ?_)
 ·clear S; intro h79 S
  exact absurd rfl h79
 clear S; intro h79 S
 refine st_condF S rfl (wp_skip (nxE (qY S (y_loadAgg (k := 273) (cs := _) S (by kernel_rfl) rfl (by with_reducible first | exact St.len zSt_ok _ | exact St.len (stSu_ok _ _ _) _ | exact St.len (stX_ok _ _ _ _ (hmN_len hl (by omega))) _ | exact St.len (stX_ok _ _ _ _ hl) _ | exact St.len hs _ | exact St.len hs2 _) (M.cellsAt 2 rfl cutL_all)) ?_))); clear S a; intro a S
 refine qY S (y_loadAgg (cs := [_, _, _, _, _, _, _, _, _, _, _, _]) S (by kernel_rfl) rfl rfl (M.cellsAt (k := 12) 0 rfl rfl)) ?_; clear S a; intro a S
 refine qC (xs := [.tmp 82, .tmp 83]) S (qE Tryz.func41) rfl (apply_any s hs _ cs ps _ ((hBk.prs M (List.mem_of_getElem? (show _[4]? = _ from rfl)) (fun e he => by simp [he]) (by unfold maxLen; omega)).wide (Nat.zero_le _) (Nat.le_refl _)) (by omega) hBk.short p.1 wa wcp p.2 (M.readAll 1 rfl (by unfold maxLen; omega)) (by omega) (by omega)) ?_
 rintro _ w15 hA; obtain ⟨s2, ps2, c2, da2, dc2, lo2, hi2, cs2, es2, rfl, hs2, M2, hBk2, hc2⟩ := apply_form hA (by omega); refine ⟨_, rfl, ?_⟩; clear S a hA; intro a S; have hK := M2.below
 obtain ⟨rfl, rfl, rfl⟩ : c2 = 0 ∧ s2 = appSt s ps p.1 p.2 ∧ ps2 = (stepO ps p.1 p.2).1 := by
  rcases hc2 with ⟨-, h1, h2, h3⟩ | ⟨h1, -⟩
  ·exact ⟨h1, h2, h3⟩
  ·rw [hpr.2] at h1; cases h1
 replace M := (M.join M2).perm perm_r5
 clear M2
 refine qG [1, 1, 1] S ?_; clear S a; intro a S
 refine st_storeAll (sz := 273) S M 2 rfl (by kernel_rfl) rfl rfl (by with_reducible first | exact St.len zSt_ok _ | exact St.len (stSu_ok _ _ _) _ | exact St.len (stX_ok _ _ _ _ (hmN_len hl (by omega))) _ | exact St.len (stX_ok _ _ _ _ hl) _ | exact St.len hs _ | exact St.len hs2 _) (by with_reducible first | exact St.one zSt_ok _ rfl | exact St.one (stSu_ok _ _ _) _ rfl | exact St.one (stX_ok _ _ _ _ (hmN_len hl (by omega))) _ rfl | exact St.one (stX_ok _ _ _ _ hl) _ rfl | exact St.one hs _ rfl | exact St.one hs2 _ rfl) rfl (by with_reducible first | exact St.len zSt_ok _ | exact St.len (stSu_ok _ _ _) _ | exact St.len (stX_ok _ _ _ _ (hmN_len hl (by omega))) _ | exact St.len (stX_ok _ _ _ _ hl) _ | exact St.len hs _ | exact St.len hs2 _) ?_; clear M; intro w16 M
 simp only [List.set_cons_zero, List.set_cons_succ] at M
 refine qG [1] S ?_; clear S a; intro a S
 replace S := S.keep [2, 6, 67, 68, 69, 70, 13, 14, 79, 15]
 refine nxA (qG [1, 1] S ?_); clear S a; intro a S
 refine nxC (st_if (t := 88) S rfl ?_ ?_)
 ·clear S; intro h88 S
  exact absurd rfl h88
 clear S; intro h88 S
 refine st_condF S rfl (wp_skip (block_normal (nxF ?_)))
 (first | refine qY S (y_addN S rfl rfl (by omega)) ?_ | refine qY S (y_int S rfl rfl rfl) ?_); clear S a; intro a S
 refine qG [1] S ?_; clear S a; intro a S
 refine nxC ?_
 skip
 have hsl := stepP_len ps p.1 p.2
 replace M := M.drop 0
 simp only [List.eraseIdx_cons_succ, List.eraseIdx_cons_zero] at M
 replace M := M.drop 0
 simp only [List.eraseIdx_cons_succ, List.eraseIdx_cons_zero] at M
 replace M := M.drop 2
 simp only [List.eraseIdx_cons_succ, List.eraseIdx_cons_zero] at M
 exact ⟨rs.length - (k + 1), by omega, k + 1, _, _, da2, dc2, lo2, hi2, cs2, es2, by omega, rfl, hs2, by omega, by rw [List.take_add_one, hp, show (some p).toList = [p] from rfl, foldS_snoc, hfo], hBk2, S.sub _ rfl, M.sub (.cons_cons _ (.cons_cons _ (.cons_cons _ ((List.Sublist.refl es2).append (List.sublist_append_right es F0)))))⟩
end Go.Proofs.YtndabhdepjnbcaaGreat

namespace Go.Proofs.YtndabhdepjnbcaaGreat
open Go.RowKit Go.Sort
def wkV (z : UInt8) : V8 := ⟨z, 0, 0, 0, 0, 0, 0, 0⟩
def wkW (z : UInt8) : List Wr := (List.range 8).map fun i : Nat => (⟨3 * (i : Int), wkV z⟩ : Wr)
theorem wkW_take (z : UInt8) {k : Nat} (h : k < 8) : (wkW z).take (k + 1) = (wkW z).take k ++ [⟨3 * (k : Int), wkV z⟩] := by
 have e : (wkW z)[k]? = some ⟨3 * (k : Int), wkV z⟩ := by
  unfold wkW
  rw [List.getElem?_map, List.getElem?_range h]; rfl
 rw [List.take_add_one, e]; rfl
theorem writes11_any (z : UInt8) (w : World) : Calls Tryz.prog 25 #[.int .u8 (z.toNat : Int)] w fun e w' => ∃ (oa : Option Addr) (oc : Nat), e = .returned (.slice oa 8 oc) ∧ Fresh w w' 60 9 (.slice oa 8 oc) 8 (wcells (wkW z)) := by
 have M := Mem.start w
 refine calls_enter Tryz.func25 rfl 18 rfl rfl ?_; intro a S
 refine nxD (qG [1] S ?_); clear S a; intro a S
 refine nxA (qG [1] S ?_); clear S a; intro a S
 refine nxC (wp_seq (nxD (qG [1] S ?_))); clear S a; intro a S
 refine nxC (wp_block (wp_loop_g (fun m a w' => ∃ (k : Nat) (oa : Option Addr) (oc lo hi : Nat), k ≤ 8 ∧ m = 8 - k ∧ Sees 18 a [(0, .int .u8 (z.toNat : Int)), (3, .slice oa k oc), (4, .int .i64 (k : Int))] ∧ Mem w w' [rowE lo hi 60 9 (.slice oa k oc) k (wcells ((wkW z).take k))]) (8) ?_ ?_))
 ·skip
  exact ⟨0, none, 0, _, _, Nat.zero_le _, rfl, S.sub _ rfl, M.rowNil 60 9⟩
 clear S M a; intro m a wl
 rintro ⟨k, oa, oc, lo, hi, hk, rfl, S, M⟩
 refine wp_seq (nxD (qG [1, 1] S ?_)); clear S a; intro a S
 refine nxC (st_fi (t := 6) S rfl ?_ ?_)
 ·clear S; intro h6 S
  refine st_condF S rfl (wp_exit (then_exit (then_exit (block_hit (nxE (qG [1, 1] S ?_)))))); clear S a; intro a S
  refine nxC (wp_ret (end_one S rfl (res_tmp rfl) ?_))
  obtain rfl : k = 8 := by omega
  rw [show (wkW z).take 8 = wkW z from rfl] at M
  exact ⟨oa, oc, rfl, M.fresh 0 rfl⟩
 clear S; intro h6 S
 refine st_condT S rfl (wp_skip (then_normal (wp_seq (wp_block (wp_region_lit (qG [1, 1] S ?_)))))); clear S a; intro a S
 (first | refine qY S (y_mulN S rfl rfl (by omega)) ?_ | refine qY S (y_int S rfl rfl rfl) ?_); clear S a; intro a S
 refine qG [1] S ?_; clear S a; intro a S
 refine qY S (y_buildA (ps := [(0, .tmp 12)]) (sz := 1) (z := [.int .u8 0, .int .u8 0, .int .u8 0, .int .u8 0, .int .u8 0, .int .u8 0, .int .u8 0, .int .u8 0]) (cs := [_, _, _, _, _, _, _, _]) S (by kernel_rfl) rfl rfl) ?_; clear S a; intro a S
 refine qY S (y_build (ps := [(0, .tmp 11), (1, .tmp 13)]) (pl := [(0, 1), (1, 8)]) (z := [.int .i64 0, .int .u8 0, .int .u8 0, .int .u8 0, .int .u8 0, .int .u8 0, .int .u8 0, .int .u8 0, .int .u8 0]) (cs := [_, _, _, _, _, _, _, _, _]) S (by kernel_rfl) rfl (rfl)) ?_; clear S a; intro a S
 refine st_lit (ps := [(0, .tmp 14)]) (e := 60) (sz := 9) (zl := [.int .i64 0, .int .u8 0, .int .u8 0, .int .u8 0, .int .u8 0, .int .u8 0, .int .u8 0, .int .u8 0, .int .u8 0]) (cs := [_, _, _, _, _, _, _, _, _]) S M rfl rfl (by kernel_rfl) rfl (rfl) ?_; clear S M a; intro a w1 bZ S M hB
 refine st_append (e := 60) (sz := 9) (by_ := 16) (zc := [.int .i64 0, .int .u8 0, .int .u8 0, .int .u8 0, .int .u8 0, .int .u8 0, .int .u8 0, .int .u8 0, .int .u8 0]) S M 1 rfl rfl (by kernel_rfl) rfl (by decide) rfl rfl rfl (show Rd _ _ _ 9 _ 1 [.int .i64 (3 * (k : Int)), .int .u8 (z.toNat : Int), .int .u8 0, .int .u8 0, .int .u8 0, .int .u8 0, .int .u8 0, .int .u8 0, .int .u8 0] from M.sliceAt 0 rfl (M.cellsAt (k := 9) 0 rfl rfl) rfl (Nat.le_refl _) (by unfold maxLen; omega)) (rfl) (by omega) (by unfold maxLen; omega) ?_; clear S M a; intro a w2 vA loA hiA S M
 obtain ⟨aA, cA, rfl, -, -⟩ := (M.readAll 0 rfl (by unfold maxLen; omega)).form
 replace M := M.drop 1
 simp only [List.eraseIdx_cons_succ, List.eraseIdx_cons_zero] at M
 refine qY S (y_assign S rfl) ?_; clear S a; intro a S
 refine wpList_nil (block_normal (nxF (qG [1] S ?_))); clear S a; intro a S
 (first | refine qY S (y_addN S rfl rfl (by omega)) ?_ | refine qY S (y_int S rfl rfl rfl) ?_); clear S a; intro a S
 refine qG [1] S ?_; clear S a; intro a S
 refine nxC ?_
 skip
 refine ⟨8 - (k + 1), by omega, k + 1, aA, cA, loA, hiA, by omega, rfl, S.sub _ rfl, ?_⟩
 rw [wkW_take z (by omega), show wcells ((wkW z).take k ++ [⟨3 * (k : Int), wkV z⟩]) = wcells ((wkW z).take k) ++ [.int .i64 (3 * (k : Int)), .int .u8 (z.toNat : Int), .int .u8 0, .int .u8 0, .int .u8 0, .int .u8 0, .int .u8 0, .int .u8 0, .int .u8 0] by rw [wcells_append]; rfl]
 exact M
def wkR (k : Nat) : Rc := { Rc.zero with kind := 2, name := ⟨(k : Int) + 1, 1, 1⟩ }
def wkX (k : Nat) : List Wr := wkW (byteOf ((k : Int) + 1))
def psW : Nat → Pl
 | 0 => []
 | 1 => [(prOf (wkR 0), wkX 0)]
 | _ => [(prOf (wkR 0), wkX 0), (prOf (wkR 1), wkX 1)]
def gotW (k : Nat) : Int := if k < 2 then 0 else 50
def zHm : List V8 := List.replicate 32 zV8
theorem lt3 {k : Nat} (h : k < 3) : k = 0 ∨ k = 1 ∨ k = 2 := by omega
theorem wkR_may {k : Nat} (h : k < 3) : (wkR k).may (wkX k) = true := by
 rcases lt3 h with rfl | rfl | rfl <;> decide +kernel
theorem wkR_no {k : Nat} (h : k < 3) : nOf ((wkR k).enc (wkX k)).length = 2 := by
 rcases lt3 h with rfl | rfl | rfl <;> decide +kernel
theorem wkR_find {k : Nat} (h : k < 3) : findP (wkR k).name (psW k) = none := by
 rcases lt3 h with rfl | rfl | rfl <;> decide +kernel
theorem psW_w {k : Nat} (h : k < 3) : wQ (psW k) = 3 * min k 2 := by
 rcases lt3 h with rfl | rfl | rfl <;> decide +kernel
theorem wkStep {w w' : World} {A : List Ent} {b bd : Nat} {s : Sh} {S0 : DS} {er : Int} {k : Nat} (hk : k < 3) (hps : s.ps = psW k) (hh : s.h = zHm) (hinc : s.x.inc = 1) (hI : ShI S0 s (2 + 2 * (k : Int)))
 (h : (er = 0 ∧ PrepOk s (wkR k) (wkX k) ∧ wQ s.ps + (nOf ((wkR k).enc (wkX k)).length + 1) ≤ 8 ∧ ComeP w A b bd s S0 (wkR k) (wkX k) (wQ s.ps + (nOf ((wkR k).enc (wkX k)).length + 1) : Nat) w') ∨ (er ≠ 0 ∧ (PrepOk s (wkR k) (wkX k) → er = 50 ∧ 8 < wQ s.ps + (nOf ((wkR k).enc (wkX k)).length + 1)) ∧ ShM w w' A b bd s S0)) :
 er = gotW k ∧ ∃ s' S', s'.ps = psW (k + 1) ∧ s'.h = zHm ∧ s'.x.inc = 1 ∧ ShI S' s' (2 + 2 * ((k + 1 : Nat) : Int)) ∧ ShM w w' A b bd s' S' := by
 have hok : PrepOk s (wkR k) (wkX k) := ⟨wkR_may hk, rfl, by rw [hps]; exact wkR_find hk⟩
 have hw : wQ s.ps = 3 * min k 2 := by rw [hps]; exact psW_w hk
 have hn := wkR_no hk
 have hN : 2 + 2 * (k : Int) + 2 = 2 + 2 * ((k + 1 : Nat) : Int) := by omega
 rcases h with ⟨h1, -, h2, h3⟩ | ⟨h1, h2, h3⟩
 ·obtain ⟨s', e1, e2, ⟨S', hI', hM'⟩, e3⟩ := go_prep hI (by omega) hok h2 h3
  rw [hN] at hI'
  refine ⟨?_, s', S', ?_, e1.trans hh, e3.trans hinc, hI', hM'⟩
  ·unfold gotW; rw [if_pos (by omega)]; exact h1
  ·rw [e2, hps]
   have : k = 0 ∨ k = 1 := by omega
   rcases this with rfl | rfl <;> rfl
 ·obtain ⟨h4, h5⟩ := h2 hok
  have h6 : k = 2 := by omega
  subst h6
  refine ⟨h4, s, S0, hps, hh, hinc, hI.mono (by omega) (by omega), h3⟩
def got3 : List Int := [0, 0, 50]
theorem got3_take {k : Nat} (h : k < 3) : (got3.take (k + 1)).map (fun z => Value.int .i64 z) = (got3.take k).map (fun z => Value.int .i64 z) ++ [.int .i64 (gotW k)] := by
 rcases lt3 h with rfl | rfl | rfl <;> rfl
set_option maxHeartbeats 2000000 in
theorem wakes11_any (w : World) : Calls Tryz.prog 8 #[] w fun e w' => e = .returned (.bool true) ∧ Below w.heap.size w w' := by
 have M := Mem.start w
 refine calls_enter Tryz.func8 rfl 98 rfl rfl ?_; intro a S
 refine nxD (qG [1] S ?_); clear S a; intro a S
 refine nxA (qC (xs := []) S (qE Tryz.func10) rfl (new_any _) ?_)
 rintro _ w1 ⟨bd, E, rfl, hE, M1⟩; refine ⟨_, rfl, ?_⟩; clear S a; intro a S; replace M := M.join M1; clear M1
 rw [List.append_nil] at M
 refine qC (xs := [.tmp 11]) S (qE Tryz.func9) rfl (shOpen0_any (A := []) hE M) ?_
 rintro _ w2 ⟨b, rfl, hM⟩; refine ⟨_, rfl, ?_⟩; clear S M a; intro a S
 obtain ⟨da, dc, lo, hi, cs, es, E, hE, hBk, M⟩ := ShM.open (P := []) hM
 simp only [List.nil_append] at M
 refine qG [1, 1, 1, 1, 1] S ?_; clear S a; intro a S
 refine nxC (wp_seq (nxD (qG [1, 1, 1] S ?_))); clear S a; intro a S
 refine st_if (t := 17) S rfl ?_ ?_
 ·clear S; intro h17 S
  exact absurd rfl h17
 clear S; intro h17 S
 refine qG [1] S ?_; clear S a; intro a S
 refine qY S (y_eqlPS (by kernel_rfl) S rfl) ?_; clear S a; intro a S
 refine qG [1] S ?_; clear S a; intro a S
 refine nxC (st_condF S rfl (wp_skip (nxE (qG [1] S ?_)))); clear S a; intro a S
 refine qC (xs := [.tmp 22]) S (qE Tryz.func11) rfl (begin11_any (A := []) suFirst (ShM.close (P := []) hE hBk M) rfl (fun k => Nat.zero_le _) gs_new sh1_may (by decide) (by decide) rfl) ?_
 rintro _ w3 ⟨rfl, hM⟩; refine ⟨_, rfl, ?_⟩; clear S M a; intro a S
 obtain ⟨da, dc, lo, hi, cs, es, E, hE, hBk, M⟩ := ShM.open (P := []) hM
 simp only [List.nil_append] at M
 have hM1 : ShM w w3 [] b bd sh1 _ := hM
 refine qG [1, 1, 1, 1, 1] S ?_; clear S a; intro a S
 replace S := S.keep [0, 1, 2, 20, 3, 4]
 refine nxA (qG [1] S ?_); clear S a; intro a S
 refine nxC (wp_seq (nxD (qG [1] S ?_))); clear S a; intro a S
 refine nxC (wp_block (wp_loop_g (fun m a w' => ∃ (k : Nat) (s : Sh) (S1 : DS) (ga : Option Addr) (gc lo hi : Nat), k ≤ 3 ∧ m = 3 - k ∧ s.ps = psW k ∧ s.h = zHm ∧ s.x.inc = 1 ∧ ShI S1 s (2 + 2 * (k : Int)) ∧ Sees 98 a [(1, pB b), (3, .int .i64 1), (4, .int .i64 0), (5, .slice ga k gc), (6, .int .i64 ((k : Int) + 1))] ∧ ShM w w' ([rowE lo hi 35 1 (.slice ga k gc) k ((got3.take k).map fun z => .int .i64 z)] ++ []) b bd s S1) (3) ?_ ?_))
 ·skip
  exact ⟨0, sh1, _, none, 0, _, _, Nat.zero_le _, rfl, rfl, rfl, rfl, sh1_I, S.sub _ rfl, ShM.close (P := [_]) hE hBk (M.rowNil 35 1)⟩
 clear S M a; intro m a wl
 rintro ⟨k, s, S1, ga, gc, lo, hi, hk, rfl, hps, hh, hinc, hI, S, hM⟩
 have hl : s.h.length = 32 := hI.hl
 obtain ⟨da, dc, lo1, hi1, cs, es, E, hE, hBk, M⟩ := ShM.open hM
 simp only [List.nil_append, List.cons_append] at M
 refine wp_seq (nxD (qG [1, 1] S ?_)); clear S a; intro a S
 refine nxC (st_if (t := 27) S rfl ?_ ?_)
 ·clear S; intro h27 S
  refine st_condT S rfl (wp_skip (then_normal (wp_seq (wp_block ?_))))
  have hk3 : k < 3 := by omega
  refine wp_region_lit (qG [1, 1, 1] S ?_); clear S a; intro a S
  refine qY S (y_build (ps := [(0, .tmp 32), (1, .const (.int .i64 1)), (2, .const (.int .i64 1))]) (pl := [(0, 1), (1, 1), (2, 1)]) (z := [.int .i64 0, .int .i64 0, .int .i64 0]) (cs := [_, _, _]) S (by kernel_rfl) rfl (rfl)) ?_; clear S a; intro a S
  refine qG [1] S ?_; clear S a; intro a S
  refine qY S (y_to8 S rfl (by kernel_rfl) (by kernel_rfl)) ?_; clear S a; intro a S
  refine qC (xs := [.tmp 35]) S (qE Tryz.func25) rfl (writes11_any (byteOf ((k : Int) + 1)) _) ?_
  rintro _ w4 ⟨wa, wc9, rfl, hF⟩; refine ⟨_, rfl, ?_⟩; clear S a; intro a S
  obtain ⟨lo2, hi2, -, M1⟩ := M.pushFresh hF; clear M; have M := M1; clear M1
  refine qY S (y_build (ps := [(0, .const (.int .i8 2)), (1, .tmp 33), (3, .tmp 36)]) (pl := [(0, 1), (1, 3), (4, 1), (5, 1), (6, 1), (7, 1), (8, 1), (9, 2), (11, 1)]) (z := [.int .i8 0, .int .i64 0, .int .i64 0, .int .i64 0, .bool false, .slice none 0 0, .int .i64 0, .int .i64 0, .int .i64 0, .int .i64 0, .int .i64 0, .int .i64 0]) (cs := [_, _, _, _, _, _, _, _, _, _, _, _]) S (by kernel_rfl) rfl (rfl)) ?_; clear S a; intro a S
  refine qC (xs := [.tmp 31, .tmp 37]) S (qE Tryz.func13) rfl (prepare11_any (A := [_, _] ++ []) (N := 2 + 2 * (k : Int)) (wkR k) wa wc9 (wkX k) (ShM.close (P := [_, _]) hE hBk M) hI (by omega) (by omega) (by show (0 : Int) ≤ _; omega) (fun W M9 => M9.readAll 0 rfl (by show (8 : Nat) ≤ maxLen; unfold maxLen; omega))) ?_
  rintro _ w5 ⟨er, rfl, hP⟩; refine ⟨_, rfl, ?_⟩; clear S M a; intro a S
  obtain ⟨rfl, s', S', hps', hh', hinc', hI', hM'⟩ := wkStep hk3 hps hh hinc hI hP
  obtain ⟨da2, dc2, lo3, hi3, cs2, es2, E2, hE2, hBk2, M⟩ := ShM.open (P := [_, _]) hM'
  simp only [List.nil_append, List.cons_append] at M
  replace M := M.drop 0
  simp only [List.eraseIdx_cons_succ, List.eraseIdx_cons_zero] at M
  refine st_lit (ps := [(0, .tmp 38)]) (e := 35) (sz := 1) (zl := [.int .i64 0]) (cs := [_]) S M rfl rfl (by kernel_rfl) rfl (rfl) ?_; clear S M a; intro a w6 bZ S M hB
  refine st_append (e := 35) (sz := 1) (by_ := 8) (zc := [.int .i64 0]) S M 1 rfl rfl (by kernel_rfl) rfl (by decide) rfl rfl rfl (show Rd _ _ _ 1 _ 1 [.int .i64 (gotW k)] from M.sliceAt 0 rfl (M.cellsAt (k := 1) 0 rfl rfl) rfl (Nat.le_refl _) (by unfold maxLen; omega)) (rfl) (by omega) (by unfold maxLen; omega) ?_; clear S M a; intro a w7 vA loA hiA S M
  obtain ⟨aA, cA, rfl, -, -⟩ := (M.readAll 0 rfl (by unfold maxLen; omega)).form
  replace M := M.drop 1
  simp only [List.eraseIdx_cons_succ, List.eraseIdx_cons_zero] at M
  refine qY S (y_assign S rfl) ?_; clear S a; intro a S
  refine wpList_nil (block_normal (nxF (qG [1] S ?_))); clear S a; intro a S
  (first | refine qY S (y_addN S rfl rfl (by omega)) ?_ | refine qY S (y_int S rfl rfl rfl) ?_); clear S a; intro a S
  refine qG [1] S ?_; clear S a; intro a S
  replace S := S.keep [1, 3, 4, 27, 5, 6]
  refine nxC ?_
  skip
  replace M := M.ord [2, 2, 2] (by simp only [ordO, oG, oS, oE, oZ, oB] <;> rfl)
  exact ⟨3 - (k + 1), by omega, k + 1, s', S', aA, cA, loA, hiA, by omega, rfl, hps', hh', hinc', hI', S.sub _ rfl, by rw [got3_take hk3]; exact ShM.close (P := [_]) hE2 hBk2 M⟩
 clear S; intro h27 S
 refine st_condF S rfl (wp_exit (then_exit (then_exit (block_hit (then_normal (wp_seq ?_))))))
 obtain rfl : k = 3 := by omega
 have hf2 : findP (⟨2, 1, 1⟩ : Nm) s.ps = some 1 := by rw [hps]; decide +kernel
 refine wp_region_lit (qG [1] S ?_); clear S a; intro a S
 refine qY S (y_build (ps := [(0, .const (.int .i64 2)), (1, .const (.int .i64 1)), (2, .const (.int .i64 1))]) (pl := [(0, 1), (1, 1), (2, 1)]) (z := [.int .i64 0, .int .i64 0, .int .i64 0]) (cs := [_, _, _]) S (by kernel_rfl) rfl (rfl)) ?_; clear S a; intro a S
 refine qC (xs := [.tmp 41, .tmp 42, .const (.bool true)]) S (qE Tryz.func14) rfl (outcome11_any (A := [_] ++ []) (⟨2, 1, 1⟩ : Nm) true (ShM.close (P := [_]) hE hBk M) hI (by omega)) ?_
 rintro _ w8 ⟨er, rfl, hP⟩; refine ⟨_, rfl, ?_⟩; clear S M a; intro a S
 obtain ⟨rfl, hM2⟩ : er = 0 ∧ ShM w w8 ([rowE lo hi 35 1 (.slice ga 3 gc) 3 ((got3.take 3).map fun z => .int .i64 z)] ++ []) b bd (s.keep (r3 ⟨2, 1, 1⟩ true) []) (s.keepD S1 (r3 ⟨2, 1, 1⟩ true) [] true) := by
  rcases hP with ⟨h1, -, h2⟩ | ⟨-, -, h1, -⟩
  ·exact ⟨h1, h2⟩
  ·rw [hf2] at h1; cases h1
 obtain ⟨q, hq, -, hh2, hps2, ⟨S2, hI2, hM3⟩, hinc2⟩ := go_out hI (by decide) hf2 hM2
 obtain ⟨s2, hs2⟩ : ∃ s2, s.keep (r3 ⟨2, 1, 1⟩ true) [] = s2 := ⟨_, rfl⟩
 rw [hs2] at hh2 hps2 hI2 hM3 hinc2
 have hl2 : s2.h.length = 32 := hI2.hl
 have hp1 : s2.ps.length = 1 := by rw [hps2, hps]; rfl
 have hq2 : q = (prOf (wkR 1), wkX 1) := by rw [hps] at hq; exact (Option.some.inj hq).symm
 have h3 : s2.h[3]? = some (wkV 2) := by rw [hh2, hh, hq2]; kernel_rfl
 have hf9 : findP (⟨9, 1, 1⟩ : Nm) s2.ps = none := by rw [hps2, hps]; decide +kernel
 obtain ⟨da, dc, lo1, hi1, cs, es, E, hE, hBk, M⟩ := ShM.open (P := [_]) hM3
 simp only [List.nil_append, List.cons_append] at M
 refine qG [1] S ?_; clear S a; intro a S
 refine nxC (wp_seq ?_)
 skip
 replace M := M.front 1 rfl
 simp only [List.eraseIdx_cons_succ, List.eraseIdx_cons_zero] at M
 refine wp_region_lit (qG [1] S ?_); clear S a; intro a S
 refine qC (xs := [.tmp 45, .const (.int .i64 3)]) S (qE Tryz.func16) rfl (read11_any 3 (wkV 2) M hl2 h3) ?_
 rintro _ w9 ⟨rfl, M1⟩; refine ⟨_, rfl, ?_⟩; clear S M a; intro a S; have M := M1; clear M1
 refine qG [1, 1, 1] S ?_; clear S a; intro a S
 refine st_alloc S M rfl rfl #[.int .u8 0, .int .u8 0, .int .u8 0, .int .u8 0, .int .u8 0, .int .u8 0, .int .u8 0, .int .u8 0] (by kernel_rfl) ?_; clear S M a; intro a w10 bV S M hB
 refine qS (sz := 8) (us := [_, _, _, _, _, _, _, _]) S M 0 ?_; clear M; intro w11 M
 refine qG [1] S ?_; clear S a; intro a S
 refine nxA (qG [1, 1, 1] S ?_); clear S a; intro a S
 refine st_fi (t := 51) S rfl ?_ ?_
 ·clear S; intro h51 S
  all_goals (first | exact absurd rfl h51 | (simp at h51; done))
 clear S; intro h51 S
 refine qG [1, 1, 1, 1] S ?_; clear S a; intro a S
 refine st_fi (t := 55) S rfl ?_ ?_
 ·clear S; intro h55 S
  all_goals (first | exact absurd rfl h55 | (simp at h55; done))
 clear S; intro h55 S
 refine qG [1] S ?_; clear S a; intro a S
 refine qY S (y_indexR (e := 35) (sz := 1) S (by kernel_rfl) rfl (M.readAll 2 rfl (by unfold maxLen; omega)) rfl (by first | omega | (simp; done) | (simp; omega))) ?_; clear S a; intro a S
 refine qY S (y_load S (by kernel_rfl) rfl ((M.readAll 2 rfl (by unfold maxLen; omega)).at_.one 0 rfl)) ?_; clear S a; intro a S
 refine qG [1, 1, 1] S ?_; clear S a; intro a S
 refine st_fi (t := 61) S rfl ?_ ?_
 ·clear S; intro h61 S
  all_goals (first | exact absurd rfl h61 | (simp at h61; done))
 clear S; intro h61 S
 refine qG [1] S ?_; clear S a; intro a S
 refine qY S (y_indexR (e := 35) (sz := 1) S (by kernel_rfl) rfl (M.readAll 2 rfl (by unfold maxLen; omega)) rfl (by first | omega | (simp; done) | (simp; omega))) ?_; clear S a; intro a S
 refine qY S (y_load S (by kernel_rfl) rfl ((M.readAll 2 rfl (by unfold maxLen; omega)).at_.one 1 rfl)) ?_; clear S a; intro a S
 refine qG [1, 1, 1] S ?_; clear S a; intro a S
 refine st_fi (t := 67) S rfl ?_ ?_
 ·clear S; intro h67 S
  all_goals (first | exact absurd rfl h67 | (simp at h67; done))
 clear S; intro h67 S
 refine qG [1] S ?_; clear S a; intro a S
 refine qY S (y_indexR (e := 35) (sz := 1) S (by kernel_rfl) rfl (M.readAll 2 rfl (by unfold maxLen; omega)) rfl (by first | omega | (simp; done) | (simp; omega))) ?_; clear S a; intro a S
 refine qY S (y_load S (by kernel_rfl) rfl ((M.readAll 2 rfl (by unfold maxLen; omega)).at_.one 2 rfl)) ?_; clear S a; intro a S
 refine qG [1, 1, 1] S ?_; clear S a; intro a S
 refine st_fi (t := 73) S rfl ?_ ?_
 ·clear S; intro h73 S
  all_goals (first | exact absurd rfl h73 | (simp at h73; done))
 clear S; intro h73 S
 refine qG [1, 1, 1, 1] S ?_; clear S a; intro a S
 refine st_fi (t := 77) S rfl ?_ ?_
 ·clear S; intro h77 S
  all_goals (first | exact absurd rfl h77 | (simp at h77; done))
 clear S; intro h77 S
 refine qG [1, 1, 1, 1] S ?_; clear S a; intro a S
 refine st_fi (t := 81) S rfl ?_ ?_
 ·clear S; intro h81 S
  all_goals (first | exact absurd rfl h81 | (simp at h81; done))
 clear S; intro h81 S
 refine qY S (y_indexA (m := 8) (sz := 1) S (by kernel_rfl) rfl rfl (by first | omega | (simp; done) | (simp; omega))) ?_; clear S a; intro a S
 refine qR [1, 1, 1, 1] S M ?_; clear S a; intro a S
 refine st_fi (t := 86) S rfl ?_ ?_
 ·clear S; intro h86 S
  all_goals (first | exact absurd rfl h86 | (simp at h86; done))
 clear S; intro h86 S
 refine qG [1] S ?_; clear S a; intro a S
 skip
 replace M := M.front 1 rfl
 simp only [List.eraseIdx_cons_succ, List.eraseIdx_cons_zero] at M
 refine qC (xs := [.tmp 87]) S (qE Tryz.func20) rfl (doubt11_any M (fun W pre M9 => DoubtRd (A := []) (E := E) (pre := pre ++ [_, _, _]) hBk (by omega) (by simpa only [List.cons_append, List.nil_append, List.append_assoc] using M9)) hBk hl2 (by omega)) ?_
 rintro _ w12 ⟨ra, rc, lo7, hi7, cs7, es7, rfl, -, M1⟩; refine ⟨_, rfl, ?_⟩; clear S M a; intro a S
 have M := (M1.drop 0).sub (List.sublist_append_right es7 _)
 clear M1
 rw [hp1] at S
 refine qY S (y_lenS (E := 75) S rfl (by kernel_rfl)) ?_; clear S a; intro a S
 refine qG [1, 1, 1] S ?_; clear S a; intro a S
 refine st_fi (t := 92) S rfl ?_ ?_
 ·clear S; intro h92 S
  all_goals (first | exact absurd rfl h92 | (simp at h92; done))
 clear S; intro h92 S
 refine qG [1] S ?_; clear S a; intro a S
 refine qY S (y_build (ps := [(0, .const (.int .i64 9)), (1, .const (.int .i64 1)), (2, .const (.int .i64 1))]) (pl := [(0, 1), (1, 1), (2, 1)]) (z := [.int .i64 0, .int .i64 0, .int .i64 0]) (cs := [_, _, _]) S (by kernel_rfl) rfl (rfl)) ?_; clear S a; intro a S
 skip
 replace M := M.ord [2, 2] (by simp only [ordO, oG, oS, oE, oZ, oB] <;> rfl)
 refine qC (xs := [.tmp 93, .tmp 94, .const (.bool true)]) S (qE Tryz.func14) rfl (outcome11_any (A := [_, _] ++ []) (⟨9, 1, 1⟩ : Nm) true (ShM.close (P := [_, _]) hE hBk M) hI2 (by rw [hinc2, hinc]; decide)) ?_
 rintro _ w13 ⟨er, rfl, hP⟩; refine ⟨_, rfl, ?_⟩; clear S M a; intro a S
 obtain ⟨rfl, hM4⟩ : er = 110 ∧ ShM w w13 ([_, _] ++ []) b bd s2 S2 := by
  rcases hP with ⟨-, ⟨k, h1⟩, -⟩ | ⟨-, h1, -, h2⟩
  ·rw [hf9] at h1; cases h1
  ·exact ⟨h1, h2⟩
 obtain ⟨da8, dc8, lo8, hi8, cs8, es8, E8, hE8, hBk8, M⟩ := ShM.open (P := []) hM4.drop
 simp only [List.nil_append] at M
 refine qG [1, 1, 1] S ?_; clear S a; intro a S
 replace S := S.keep [1, 3, 4, 5, 6, 27, 7, 8, 9, 0]
 refine nxC (wp_ret (end_one S rfl (res_tmp rfl) ?_))
 exact ⟨rfl, M.below⟩
end Go.Proofs.YtndabhdepjnbcaaGreat

namespace Go.Proofs.YtndabhdepjnbcaaGreat
open Go.RowKit Go.Sort
end Go.Proofs.YtndabhdepjnbcaaGreat

namespace Go.Proofs.YtndabhdepjnbcaaGreat
open Go.RowKit Go.Sort
structure Act11 where
 do_ : Int
 n : Int
 r : Rc
 x : List Wr
 plan : List (Int × Int)
abbrev Act11.cellsL (q : Act11) (wv pv : Value) : List Value := [.int .i64 q.do_, .int .i64 q.n, .int .i8 q.r.kind, .int .i64 q.r.name.stamp, .int .i64 q.r.name.inc, .int .i64 q.r.name.try_, .bool q.r.yes, wv, .int .i64 q.r.give, .int .i64 q.r.take, .int .i64 q.r.shards, .int .i64 q.r.cs, .int .i64 q.r.ct, .int .i64 q.r.n, pv]
def RowS (cs : List Value) (lo hi : Nat) (w : World) (v : Value) (l : List Act11) : Prop :=
 Rd lo hi w 15 v l.length cs ∧ ∀ (i : Nat) (q : Act11), l[i]? = some q → q.r.shards ≤ 9223372036854775807 ∧ ∃ wa wc pa pc, (cs.drop (i * 15)).take 15 = q.cellsL (.slice wa q.x.length wc) (.slice pa q.plan.length pc) ∧ Ws lo hi w (.slice wa q.x.length wc) q.x ∧ Rd lo hi w 2 (.slice pa q.plan.length pc) q.plan.length (kcells q.plan)
theorem Mem.actsS {w0 w : World} {H : List Ent} {v : Value} {cs : List Value} {l : List Act11} (M : Mem w0 w H) (h : RowS cs 0 w0.heap.size w0 v l) : RowS cs 0 w.heap.size w v l :=
 ⟨M.argW h.1, fun i q hq => let ⟨h0, wa, wc, pa, pc, h1, h2, h3⟩ := h.2 i q hq; ⟨h0, wa, wc, pa, pc, h1, M.argW h2, M.argW h3⟩⟩
theorem great11_any (va : Option Addr) (vc : Nat) (cs : List Value) (l : List Act11) (w : World) (hv : RowS cs 0 w.heap.size w (.slice va l.length vc) l) :
 Calls Tryz.prog 6 #[.slice va l.length vc] w fun e w' => ∃ b, e = .returned (.bool b) ∧ Below w.heap.size w w' ∧ (b = false → l.length ≤ 120) := by
 have M := Mem.start w
 have hl := hv.1.2.1
 unfold maxLen at hl
 refine calls_enter Tryz.func6 rfl 29 rfl rfl ?_; intro a S
 refine nxD (qG [1] S ?_); clear S a; intro a S
 refine nxC (wp_seq (nxD (qG [1] S ?_))); clear S a; intro a S
 refine qY S (y_lenR (E := 44) S rfl (M.arg hv.1) (by kernel_rfl)) ?_; clear S a; intro a S
 refine qG [1] S ?_; clear S a; intro a S
 refine nxC (wp_block (wp_loop_g (fun m a w' => ∃ k : Nat, k ≤ l.length ∧ k ≤ 120 ∧ m = l.length - k ∧ Sees 29 a [(0, .slice va l.length vc), (5, .int .i64 (l.length : Int)), (6, .int .i64 (k : Int))] ∧ Mem w w' []) (l.length) ?_ ?_))
 ·skip
  exact ⟨0, Nat.zero_le _, by omega, rfl, S.sub _ rfl, M⟩
 clear S M a; intro m a wl
 rintro ⟨k, hk, hk2, rfl, S, M⟩
 refine nxD (qG [1] S ?_); clear S a; intro a S
 refine nxC (wp_seq (st_fi (t := 7) S rfl ?_ ?_))
 ·clear S; intro h7 S
  refine st_condF S rfl (wp_exit (then_exit (then_exit (block_hit (nxE (qG [1] S ?_)))))); clear S a; intro a S
  refine nxC (wp_ret (end_one S rfl (res_tmp rfl) ?_))
  exact ⟨_, rfl, M.below, fun _ => by omega⟩
 clear S; intro h7 S
 refine st_condT S rfl (wp_skip (then_normal (wp_seq (wp_block (nxD (qG [1, 1] S ?_)))))); clear S a; intro a S
 refine nxC (wp_seq ?_)
 obtain ⟨q, hq⟩ : ∃ q, l[k]? = some q := ⟨_, List.getElem?_eq_getElem (by omega)⟩
 obtain ⟨hs, wa, wc, pa, pc, hc, -⟩ := hv.2 k q hq
 refine wp_region_lit (qG [1, 1, 1] S ?_); clear S a; intro a S
 refine st_if (t := 11) S rfl ?_ ?_
 ·clear S; intro h11 S
  refine qG [0, 0, 0, 0, 0, 0, 1, 1, 0, 0, 0, 0, 0, 0, 0, 1] S ?_; clear S a; intro a S
  replace S := S.keep [0, 5, 6, 7, 3, 27]
  refine nxC (st_condT S rfl (nxD (qG [1] S ?_))); clear S a; intro a S
  refine nxC (wp_ret (block_ret (then_ret (then_ret (block_ret (then_ret (end_one S rfl (res_tmp rfl) ?_)))))))
  exact ⟨true, rfl, M.below, fun h => absurd h (by decide)⟩
 clear S; intro h11 S
 refine qG [1, 1] S ?_; clear S a; intro a S
 refine qY S (y_indexR (e := 44) (sz := 15) S (by kernel_rfl) rfl ((M.arg hv.1)) rfl (by first | omega | (simp; done) | (simp; omega))) ?_; clear S a; intro a S
 try simp only [Int.toNat_natCast, Nat.mul_one, Nat.zero_add] at S
 refine qG [3] S ?_; clear S a; intro a S
 refine qY S (y_loadAgg S (by kernel_rfl) rfl rfl (show CellsAt _ _ _ (q.r.cells (.slice wa q.x.length wc)).toList from ((M.arg hv.1).at_.row (i := k) hc rfl).sub (i := 2) (k := 12))) ?_; clear S a; intro a S
 refine qQ (xs := [.tmp 16]) S (qE Tryz.func7) rfl (greatR_any q.r wa q.x.length wc _) M ?_; clear S M a; intro a w1 S hK M
 refine qG [1, 1] S ?_; clear S a; intro a S
 refine st_if (t := 19) S rfl ?_ ?_
 ·clear S; intro h19 S
  refine qG [0, 0, 0, 0, 0, 0, 0, 1] S ?_; clear S a; intro a S
  replace S := S.keep [0, 5, 6, 7, 3, 27]
  refine nxC (st_condT S rfl (nxD (qG [1] S ?_))); clear S a; intro a S
  refine nxC (wp_ret (block_ret (then_ret (then_ret (block_ret (then_ret (end_one S rfl (res_tmp rfl) ?_)))))))
  exact ⟨true, rfl, M.below, fun h => absurd h (by decide)⟩
 clear S; intro h19 S
 refine qG [1, 1] S ?_; clear S a; intro a S
 refine qY S (y_indexR (e := 44) (sz := 15) S (by kernel_rfl) rfl ((M.arg hv.1)) rfl (by first | omega | (simp; done) | (simp; omega))) ?_; clear S a; intro a S
 try simp only [Int.toNat_natCast, Nat.mul_one, Nat.zero_add] at S
 refine qG [15] S ?_; clear S a; intro a S
 refine qY S (y_load S (by kernel_rfl) rfl (((M.arg hv.1).at_.row (i := k) hc rfl) 14 (by show 14 < 15; omega))) ?_; clear S a; intro a S
 refine qY S (y_lenS (E := 136) S rfl (by kernel_rfl)) ?_; clear S a; intro a S
 refine qG [1, 1] S ?_; clear S a; intro a S
 replace S := S.keep [0, 5, 6, 7, 3, 27]
 refine nxC (st_if (t := 27) S rfl ?_ ?_)
 ·clear S; intro h27 S
  refine st_condT S rfl (nxD (qG [1] S ?_)); clear S a; intro a S
  refine nxC (wp_ret (block_ret (then_ret (then_ret (block_ret (then_ret (end_one S rfl (res_tmp rfl) ?_)))))))
  exact ⟨true, rfl, M.below, fun h => absurd h (by decide)⟩
 clear S; intro h27 S
 refine st_condF S rfl (wp_skip (block_normal (nxF ?_)))
 (first | refine qY S (y_addN S rfl rfl (by omega)) ?_ | refine qY S (y_int S rfl rfl rfl) ?_); clear S a; intro a S
 refine qG [1] S ?_; clear S a; intro a S
 refine nxC ?_
 exact ⟨l.length - (k + 1), by omega, k + 1, by omega, by first | omega | (simp at *; omega), rfl, S.sub _ rfl, M⟩
end Go.Proofs.YtndabhdepjnbcaaGreat

namespace Go.Proofs.YtndabhdepjnbcaaGreat
open Go.RowKit Go.Sort
end Go.Proofs.YtndabhdepjnbcaaGreat

namespace Go.Proofs.YtndabhdepjnbcaaGreat
open Go.RowKit Go.Sort
def lastB (x : List Wr) (k : Nat) : Int := match k with
 | 0 => -1
 | k + 1 => ((x[k]?).map Wr.block).getD 0
theorem sameWrites_any (va vb : Value) (x y : List Wr) (w : World) (hx : Ws 0 w.heap.size w va x) (hy : Ws 0 w.heap.size w vb y) :
 Calls Tryz.prog 62 #[va, vb] w fun e w' => e = .returned (.bool (eqWs x y)) ∧ Below w.heap.size w w' := by
 have M := Mem.start w
 have hl := hx.2.1
 unfold maxLen at hl
 have hne : x.length ≠ y.length → eqWs x y = false := fun h => by
  cases e : eqWs x y with
  | false => rfl
  | true => exact absurd (by rw [eqWs_iff.1 e]) h
 refine calls_enter Tryz.func62 rfl 26 rfl rfl ?_; intro a S
 refine nxD (qG [1] S ?_); clear S a; intro a S
 refine nxC (wp_seq (nxD (qG [1] S ?_))); clear S a; intro a S
 refine qY S (y_lenR (E := 60) S rfl (M.arg hx) (by kernel_rfl)) ?_; clear S a; intro a S
 refine qG [1] S ?_; clear S a; intro a S
 refine qY S (y_lenR (E := 60) S rfl (M.arg hy) (by kernel_rfl)) ?_; clear S a; intro a S
 refine qG [1] S ?_; clear S a; intro a S
 refine nxC (st_if (t := 10) S rfl ?_ ?_)
 ·clear S; intro h10 S
  refine st_condT S rfl (nxD (qG [1] S ?_)); clear S a; intro a S
  refine nxC (wp_ret (then_ret (end_one S rfl (res_tmp rfl) ?_)))
  exact ⟨ret_bool (hne (by omega)).symm, M.below⟩
 clear S; intro h10 S
 refine st_condF S rfl (wp_skip (then_normal (wp_seq (nxD (qG [1] S ?_))))); clear S a; intro a S
 refine nxC (wp_block (wp_loop_g (fun m a w' => ∃ (k : Nat), k ≤ x.length ∧ m = x.length - k ∧ Sees 26 a [(0, va), (1, vb), (5, .int .i64 (k : Int))] ∧ Mem w w' [] ∧ ∀ j, j < k → x[j]? = y[j]?) (x.length) ?_ ?_))
 ·skip
  exact ⟨0, Nat.zero_le _, rfl, S.sub _ rfl, M, fun j h => by omega⟩
 clear S M a; intro m a wl
 rintro ⟨k, hk, rfl, S, M, hpre⟩
 refine wp_seq (nxD (qG [1, 1] S ?_)); clear S a; intro a S
 refine qY S (y_lenR (E := 60) S rfl ((M.arg hx)) (by kernel_rfl)) ?_; clear S a; intro a S
 refine qG [1] S ?_; clear S a; intro a S
 refine nxC (st_fi (t := 14) S rfl ?_ ?_)
 ·clear S; intro h14 S
  refine st_condF S rfl (wp_exit (then_exit (then_exit (block_hit (nxE (qG [1] S ?_)))))); clear S a; intro a S
  refine nxC (wp_ret (end_one S rfl (res_tmp rfl) ?_))
  obtain rfl : k = x.length := by omega
  refine ⟨ret_bool (eqWs_iff.2 (List.ext_getElem? fun j => ?_)).symm, M.below⟩
  by_cases hj : j < x.length
  ·exact hpre j hj
  ·rw [List.getElem?_eq_none (by omega), List.getElem?_eq_none (by omega)]
 clear S; intro h14 S
 refine st_condT S rfl (wp_skip (then_normal (wp_seq (wp_block (wp_seq ?_)))))
 obtain ⟨p, hp⟩ : ∃ p, x[k]? = some p := ⟨_, List.getElem?_eq_getElem (by omega)⟩
 obtain ⟨q, hq⟩ : ∃ q, y[k]? = some q := ⟨_, List.getElem?_eq_getElem (by omega)⟩
 refine wp_quiet M (by kernel_rfl) (by kernel_rfl) ?_
 refine qt_y S rfl rfl rfl (fun w M => y_move S rfl) ?_; clear S a; intro a S
 refine qt_y S rfl rfl rfl (fun w M => y_move S rfl) ?_; clear S a; intro a S
 refine qt_y S rfl rfl rfl (fun w M => y_indexR (e := 60) (sz := 9) S (by kernel_rfl) rfl ((M.arg hx)) rfl (by first | omega | (simp; done) | (simp; omega))) ?_; clear S a; intro a S
 try simp only [Int.toNat_natCast, Nat.mul_one, Nat.zero_add] at S
 refine qt_y S rfl rfl rfl (fun w M => y_loadAgg S (by kernel_rfl) rfl rfl ((M.arg hx).at_.row (i := k) (wcells_get hp) rfl)) ?_; clear S a; intro a S
 refine qt_y S rfl rfl rfl (fun w M => y_move S rfl) ?_; clear S a; intro a S
 refine qt_y S rfl rfl rfl (fun w M => y_move S rfl) ?_; clear S a; intro a S
 refine qt_y S rfl rfl rfl (fun w M => y_indexR (e := 60) (sz := 9) S (by kernel_rfl) rfl ((M.arg hy)) rfl (by first | omega | (simp; done) | (simp; omega))) ?_; clear S a; intro a S
 try simp only [Int.toNat_natCast, Nat.mul_one, Nat.zero_add] at S
 refine qt_y S rfl rfl rfl (fun w M => y_loadAgg S (by kernel_rfl) rfl rfl ((M.arg hy).at_.row (i := k) (wcells_get hq) rfl)) ?_; clear S a; intro a S
 refine qt_y S rfl rfl rfl (fun w M => y_neqG (by kernel_rfl) S rfl rfl (fun w => equalWr 9997 p q w)) ?_; clear S a; intro a S
 refine wpQuiet_nil ?_; clear M; intro w1 M
 refine then_normal (st_split (t := 25) S rfl ?_ ?_)
 ·clear S; intro h25 S
  refine st_condT S rfl (nxD (qG [1] S ?_)); clear S a; intro a S
  refine nxC (wp_ret (block_ret (then_ret (then_ret (block_ret (then_ret (end_one S rfl (res_tmp rfl) ?_)))))))
  refine ⟨ret_bool ?_, M.below⟩
  cases e : eqWs x y with
  | false => rfl
  | true =>
    rw [eqWs_iff.1 e, hq] at hp
    cases hp
    rw [Wr.eqb_iff.2 rfl] at h25
    cases h25
 clear S; intro h25 S
 refine st_condF S rfl (wp_skip (block_normal (nxF (qG [1] S ?_)))); clear S a; intro a S
 (first | refine qY S (y_addN S rfl rfl (by omega)) ?_ | refine qY S (y_int S rfl rfl rfl) ?_); clear S a; intro a S
 refine qG [1] S ?_; clear S a; intro a S
 replace S := S.keep [0, 1, 14, 25, 5]
 refine nxC ?_
 refine ⟨x.length - (k + 1), by omega, k + 1, by omega, rfl, S.sub _ rfl, M, fun j hj => ?_⟩
 rcases Nat.lt_or_ge j k with h | h
 ·exact hpre j h
 ·obtain rfl : j = k := by omega
  rw [hp, hq, (Wr.eqb_iff (a := p) (b := q)).1 (by simpa using h25)]
def givenB (g t : Int) : Bool := bitsB g && bitsB t && (andV g t == 0)
end Go.Proofs.YtndabhdepjnbcaaGreat

namespace Go.Proofs.YtndabhdepjnbcaaGreat
open Go.RowKit Go.Sort
theorem check11_any {wc w : World} {A : List Ent} {b bd : Nat} {s : Sh} {S0 : DS} {N : Int} (hM : ShM wc w A b bd s S0) (hI : ShI S0 s N) (hinc : s.x.inc ≠ 0) :
 Calls Tryz.prog 17 #[pB b] w fun e w' => e = .returned (.int .i64 0) ∧ ShM wc w' A b bd s.save (s.saveD S0) := by
 have hl := hI.hl
 obtain ⟨da, dc, lo, hi, cs, es, E, hE, hBk, M⟩ := hM
 refine calls_enter Tryz.func17 rfl 14 rfl rfl ?_; intro a S
 refine wp_seq ?_
 skip
 refine wp_region_lit (qG [1] S ?_); clear S a; intro a S
 refine nxC (wp_seq (nxD (qG [1] S ?_))); clear S a; intro a S
 refine qY S (y_eqlPS (by kernel_rfl) S rfl) ?_; clear S a; intro a S
 refine nxC (st_condF S rfl (wp_skip (then_normal (wp_seq (nxD (qG [1, 1, 2, 1, 4] S ?_)))))); clear S a; intro a S
 refine qY S (y_load S (by kernel_rfl) rfl (M.cell 0 rfl (shC_inc bd s _))) ?_; clear S a; intro a S
 refine qG [1] S ?_; clear S a; intro a S
 refine nxC (st_if (t := 11) S rfl ?_ ?_)
 ·clear S; intro h11 S
  exact absurd h11 hinc
 clear S; intro h11 S
 refine st_condF S rfl (wp_skip (nxE (qG [1] S ?_))); clear S a; intro a S
 refine qC (xs := [.tmp 12]) S (qE Tryz.func35) rfl (saveS_any ⟨da, dc, lo, hi, cs, es, E, hE, hBk, M⟩ hI) ?_
 rintro _ w1 ⟨rfl, hM1⟩; refine ⟨_, rfl, ?_⟩; clear S M a; intro a S
 obtain ⟨da1, dc1, lo1, hi1, cs1, es1, E1, hE1, hBk1, M⟩ := hM1
 refine qG [1] S ?_; clear S a; intro a S
 refine nxC (wp_ret (end_one S rfl (res_tmp rfl) ?_))
 exact ⟨rfl, da1, dc1, lo1, hi1, cs1, es1, E1, hE1, hBk1, M⟩
set_option maxHeartbeats 1000000 in
set_option maxRecDepth 10000 in
theorem shOpenG_any {wc w : World} {A E : List Ent} {bd : Nat} {S0 : DS} (x : Su) (h : List V8) (l0 : Rl) (s : Sh) (hl : h.length = 32) (hE : DkE bd S0 E) (M : Mem wc w (A ++ E)) (hup : S0.down = false) (hw : ∀ k, (S0.cache k).length ≤ 1000000) (hz : ∀ k, k < 8 → HomeB h k (S0.get (26 + k))) (hg : gsR (secD S0) = (x, 0)) (hrec : Recs l0 ((scanG S0 x.tail).l.map (·.2))) (hsl : s.h.length = 32)
 (hf : foldS (stX x x.tail (scanG S0 x.tail).next h 0) [] l0 = (s.st, s.ps)) :
 Calls Tryz.prog 9 #[pB bd] w fun e w' => ∃ b, e = .returned (.tuple #[pB b, .int .i64 0]) ∧ s.ps.length ≤ 24 ∧ ShM wc w' A b bd s S0 := by
 have hok : s.st.ok := stX_ok _ _ _ _ hsl
 refine calls_enter Tryz.func9 rfl 20 rfl rfl ?_; intro a S
 refine nxD (qG [1, 1] S ?_); clear S a; intro a S
 refine nxC (wp_seq (nxD (qG [1] S ?_))); clear S a; intro a S
 refine qY S (y_eqlPS (by kernel_rfl) S rfl) ?_; clear S a; intro a S
 refine nxC (st_condF S rfl (wp_skip (nxE (qG [1] S ?_)))); clear S a; intro a S
 refine qC (xs := [.tmp 9]) S (qE Tryz.func26) rfl (openG_any x h l0 hl hE M hup hw hz hg hrec) ?_
 rintro _ w1 ⟨s2, ps2, da, dc, lo, hi, cs, es, rfl, M1, hBk, hs2, hp2, hfo⟩; refine ⟨_, rfl, ?_⟩; clear S M a; intro a S; have M := M1; clear M1
 obtain ⟨rfl, rfl⟩ : s2 = s.st ∧ ps2 = s.ps := by
  rw [hf] at hfo
  exact ⟨(congrArg Prod.fst hfo).symm, (congrArg Prod.snd hfo).symm⟩
 refine qG [1, 1, 1] S ?_; clear S a; intro a S
 refine st_alloc S M rfl rfl (zSt.cellsL (.slice none 0 0)).toArray (by kernel_rfl) ?_; clear S M a; intro a w2 bW S M hB
 refine st_storeAll (sz := 273) S M 0 rfl (by kernel_rfl) rfl rfl (by with_reducible first | exact St.len hok _ | exact St.len zSt_ok _ | exact shC_len (s := s) hsl | exact zShC_len) (by with_reducible first | exact St.one hok _ rfl | exact St.one zSt_ok _ rfl) rfl (by with_reducible first | exact St.len hok _ | exact St.len zSt_ok _ | exact shC_len (s := s) hsl | exact zShC_len) ?_; clear M; intro w3 M
 simp only [List.set_cons_zero, List.set_cons_succ] at M
 refine qG [1] S ?_; clear S a; intro a S
 refine nxC (wp_seq (nxD (qG [1, 1] S ?_))); clear S a; intro a S
 refine nxC (st_if (t := 14) S rfl ?_ ?_)
 ·clear S; intro h14 S
  exact absurd rfl h14
 clear S; intro h14 S
 refine st_condF S rfl (wp_skip (nxE (qG [1] S ?_))); clear S a; intro a S
 refine qY S (y_loadAgg (k := 273) (cs := _) S (by kernel_rfl) rfl (by with_reducible first | exact St.len hok _ | exact St.len zSt_ok _ | exact shC_len (s := s) hsl | exact zShC_len) (M.cellsAt 0 rfl cutL_all)) ?_; clear S a; intro a S
 refine qY S (y_build (ps := [(0, .tmp 16), (1, .tmp 17)]) (pl := [(0, 1), (1, 273)]) (z := zShC) (cs := shC bd s (.slice da s.ps.length dc)) S (by kernel_rfl) rfl (fill_sh bd s _ hsl)) ?_; clear S a; intro a S
 refine st_box S M rfl rfl rfl _ rfl ?_; clear S M a; intro a w4 bX S M hB
 refine qG [1, 1] S ?_; clear S a; intro a S
 refine nxC (wp_ret (end_two S rfl (res_tmp rfl) (res_tmp rfl) ?_))
 skip
 replace M := M.drop 1
 simp only [List.eraseIdx_cons_succ, List.eraseIdx_cons_zero] at M
 exact ⟨bX, rfl, hp2, da, dc, lo, hi, cs, es, E, hE, hBk, M⟩
theorem isSome_some {nm : Nm} {ps : Pl} {k : Nat} (h : findP nm ps = some k) : (findP nm ps).isSome = true := by rw [h]; rfl
theorem find11_any (s : St) (hs : s.ok) (dv : Value) (cs : List Value) (ps : Pl) (nm : Nm) (w : World) (hd : PrsC cs 0 w.heap.size w dv ps) : Calls Tryz.prog 24 #[.agg (s.cellsL dv).toArray, .agg nm.cells] w fun e w' => ∃ k : Int, e = .returned (.tuple #[.int .i64 k, .bool (findP nm ps).isSome]) ∧ Below w.heap.size w w' := by
 have M := Mem.start w
 have hl := hd.1.2.1
 unfold maxLen at hl
 refine calls_enter Tryz.func24 rfl 23 rfl rfl ?_; intro a S
 refine nxD (st_box S M rfl rfl rfl _ rfl ?_); clear S M a; intro a w1 bF S M hB
 refine st_box S M rfl rfl rfl #[_, _, _] rfl ?_; clear S M a; intro a w2 bN S M hB
 refine qG [1, 1] S ?_; clear S a; intro a S
 refine nxC (wp_seq (nxD (qG [1] S ?_))); clear S a; intro a S
 refine nxC (wp_block (wp_loop_g (fun m a w' => ∃ (k : Nat), k ≤ ps.length ∧ m = ps.length - k ∧ Sees 23 a [(2, .pointer (some ⟨bF, 0, none⟩)), (3, .pointer (some ⟨bN, 0, none⟩)), (6, .int .i64 (k : Int))] ∧ Mem w w' [.blk bN nm.cells 25, .blk bF (s.cellsL dv).toArray 57] ∧ ∀ (i : Nat) (p : Pr × List Wr), i < k → ps[i]? = some p → p.1.name.eqb nm = false) (ps.length) ?_ ?_))
 ·skip
  exact ⟨0, Nat.zero_le _, rfl, S.sub _ rfl, M, fun i p h => absurd h (by omega)⟩
 clear S M a; intro m a wl
 rintro ⟨k, hk, rfl, S, M, hno⟩
 refine wp_seq (nxD (qG [1, 272] S ?_)); clear S a; intro a S
 refine qY S (y_load S (by kernel_rfl) rfl (M.cell 1 rfl (St.doubt hs dv))) ?_; clear S a; intro a S
 refine qY S (y_lenR (E := 75) S rfl ((M.prs hd).1) (by kernel_rfl)) ?_; clear S a; intro a S
 refine qG [1] S ?_; clear S a; intro a S
 refine nxC (st_fi (t := 11) S rfl ?_ ?_)
 ·clear S; intro h11 S
  refine st_condF S rfl (wp_exit (then_exit (then_exit (block_hit (nxE (qG [1, 1] S ?_)))))); clear S a; intro a S
  refine nxC (wp_ret (end_two S rfl (res_tmp rfl) (res_tmp rfl) ?_))
  refine ⟨0, ?_, M.below⟩
  rw [findP_none fun i p hp => hno i p ?_ hp]
  ·rfl
  ·have := (List.getElem?_eq_some_iff.1 hp).1; omega
 clear S; intro h11 S
 refine st_condT S rfl (wp_skip (then_normal (wp_seq (wp_block (wp_seq ?_)))))
 have hk' : k < ps.length := by omega
 obtain ⟨q, hq⟩ : ∃ q, ps[k]? = some q := ⟨_, List.getElem?_eq_getElem hk'⟩
 obtain ⟨ad, cp, hrow, hws⟩ := (M.prs hd).sl hq
 refine wp_quiet M (by kernel_rfl) (by kernel_rfl) ?_
 refine qt_y S rfl rfl rfl (fun w M => y_fieldAddr (k := 271) S (by kernel_rfl) rfl) ?_; clear S a; intro a S
 refine qt_y S rfl rfl rfl (fun w M => y_load S (by kernel_rfl) rfl (M.cell 1 rfl (St.doubt hs dv))) ?_; clear S a; intro a S
 refine qt_y S rfl rfl rfl (fun w M => y_move S rfl) ?_; clear S a; intro a S
 refine qt_y S rfl rfl rfl (fun w M => y_indexR (e := 75) (sz := 6) S (by kernel_rfl) rfl ((M.prs hd).1) rfl (by first | omega | (simp; done) | (simp; omega))) ?_; clear S a; intro a S
 try simp only [Int.toNat_natCast, Nat.mul_one, Nat.zero_add] at S
 refine qt_y S rfl rfl rfl (fun w M => y_fieldAddr (k := 0) S (by kernel_rfl) rfl) ?_; clear S a; intro a S
 refine qt_y S rfl rfl rfl (fun w M => y_loadAgg S (by kernel_rfl) rfl rfl (((M.prs hd).1.at_.row (i := k) hrow rfl).sub (i := 0) (k := 3))) ?_; clear S a; intro a S
 refine qt_y S rfl rfl rfl (fun w M => y_loadAgg (cs := [_, _, _]) S (by kernel_rfl) rfl rfl (M.cellsAt (k := 3) 0 rfl rfl)) ?_; clear S a; intro a S
 refine qt_y S rfl rfl rfl (fun w M => y_eqlG (by kernel_rfl) S rfl rfl (fun w => equalNm 9998 q.1.name nm w)) ?_; clear S a; intro a S
 refine wpQuiet_nil ?_; clear M; intro w3 M
 refine then_normal (st_split (t := 21) S rfl ?_ ?_)
 ·clear S; intro h21 S
  refine st_condT S rfl (nxD (qG [1, 1, 1] S ?_)); clear S a; intro a S
  refine nxC (wp_ret (block_ret (then_ret (then_ret (block_ret (then_ret (end_two S rfl (res_tmp rfl) (res_tmp rfl) ?_)))))))
  exact ⟨_, by rw [isSome_some (findP_some hq h21 hno)], M.below⟩
 clear S; intro h21 S
 refine st_condF S rfl (wp_skip (block_normal (nxF (qG [1] S ?_)))); clear S a; intro a S
 (first | refine qY S (y_addN S rfl rfl (by omega)) ?_ | refine qY S (y_int S rfl rfl rfl) ?_); clear S a; intro a S
 refine qG [1] S ?_; clear S a; intro a S
 replace S := S.keep [2, 3, 11, 21, 6]
 refine nxC ?_
 refine ⟨ps.length - (k + 1), by omega, k + 1, by omega, rfl, S.sub _ rfl, M, fun i p hi hp => ?_⟩
 rcases Nat.lt_or_ge i k with h | h
 ·exact hno i p h hp
 ·obtain rfl : i = k := by omega
  rw [hq] at hp
  obtain rfl := Option.some.inj hp
  exact h21
end Go.Proofs.YtndabhdepjnbcaaGreat

