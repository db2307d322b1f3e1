/-
  What PartStrict rests on, part 31.
-/
import Derived.Test.YtocppoflhllelaaGreatP28
import Derived.Test.YtocppoflhllelaaGreatP29
import Derived.Test.YtocppoflhllelaaGreatP30
namespace Go.Proofs.YtocppoflhllelaaGreat
open Go.RowKit Go.Sort
section
variable {S : DS} {N : Int} {P A : List Ent} {b bd : Nat} {s : Sh} {wc w : World}
/-! ### what is owned stays a byte -/
theorem Gi {z : Int} (h : 0 ≤ z ∧ z ≤ 255) : ∃ k : Nat, k ≤ 255 ∧ z = (k : Int) ∧ BitVec.ofInt 64 z = BitVec.ofNat 64 k := by
 grind [Int.eq_ofNat_of_zero_le]
theorem WH {k : Nat} (h : k ≤ 255) : IntKind.i64.wrap (k : Int) = (k : Int) := by grind [IntKind.wrap_i64]
theorem JfJ {x y : Int} (hx : 0 ≤ x ∧ x ≤ 255) (hy : 0 ≤ y ∧ y ≤ 255) : 0 ≤ orV x y ∧ orV x y ≤ 255 := by
 obtain ⟨a, ha, rfl, ea⟩ := Gi hx
 obtain ⟨b, hb, rfl, eb⟩ := Gi hy
 have e : orV (a : Int) (b : Int) = IntKind.i64.wrap (((BitVec.ofInt 64 (a : Int) ||| BitVec.ofInt 64 (b : Int) : BitVec 64).toNat : Nat) : Int) := rfl
 have e2 : (BitVec.ofNat 64 a ||| BitVec.ofNat 64 b).toNat = a ||| b := by
  grind
 have h8 : a ||| b < 2 ^ 8 := Nat.or_lt_two_pow o_ o_
 grind [WH]
theorem EK {x y : Int} (hx : 0 ≤ x ∧ x ≤ 255) : 0 ≤ Z9 x y ∧ Z9 x y ≤ 255 := by
 grind [Gi, Z9, Nat.and_le_left, WH]
theorem Jea {q : Pr × List Wr} (h : Za q) : (0 ≤ q.1.give ∧ q.1.give ≤ 255) ∧ (0 ≤ q.1.take ∧ q.1.take ≤ 255) := by
 rcases jN h with ⟨a, -⟩ | ⟨-, -, -, -, h1, h2, -⟩ | ⟨a, -⟩ | ⟨a, -⟩ | ⟨a, -⟩ | ⟨a, -⟩ | ⟨a, -⟩
 all_goals first | (simp [jd] at a; done) | skip
 have k1 : 0 ≤ q.1.give ∧ q.1.give < 256 := of_decide_eq_true h1
 have k2 : 0 ≤ q.1.take ∧ q.1.take < 256 := of_decide_eq_true h2
 omega
theorem JdV {o : Int} {ps : Pl} (ho : 0 ≤ o ∧ o ≤ 255) (hm : ∀ q ∈ ps, Za q) (r : Rc) : 0 ≤ Zw o ps r ∧ Zw o ps r ≤ 255 := by
 unfold Zw
 split
 ·split
  ·split
   ·rename_i q hq
    exact JfJ (EK ho) (Jea (hm q (List.mem_of_getElem? hq))).2
   omega
  omega
 omega
/-! ### what a store may be stays so -/
theorem Sh.save_may (h : ShI S s N) : (ZB s.x s.n).may := by
 obtain ⟨h0, h1, h2, h3, h4, h5, h6, h7, h8, h9, h10⟩ := h.may
 have hlg := h.lg; unfold Zb at hlg
 have := h.nx; have := h.few; have := h.gen
 refine ⟨h0, ?_⟩
 grind [ZB]
theorem ShI.save (h : ShI S s N) (hN : N + 1 ≤ 1000) : ShI (s.saveD S) s.save (N + 1) := by
 have hlg := h.lg; unfold Zb at hlg
 have h1 := h.nx; have h2 := h.w8; have h3 := h.gen; have h4 := h.few
 have hc : (s.saveD S).cache = fun _ => [] := by
  unfold Sh.saveD
  rw [show 12 + s.ps.length = 11 + s.ps.length + 1 by omega, sv, Jc2 (.inr (.inr o_))]; rfl
 refine ⟨?_, fun k => by grind, h.hl, h.mq, Sh.save_may h, ?_, ?_, ?_, hN, h2, ?_⟩
 ·unfold Sh.saveD; rw [U4]; exact h.up
 ·grind [Sh.save]
 ·grind [Sh.save]
 ·show s.x.gen + 1 ≤ _; omega
 ·show s.n + ((wtP s.ps : Nat) : Int) + ((wtP s.ps + s.ps.length : Nat) : Int) ≤ s.n + 24; omega
theorem ShI.mono {M : Int} (h : ShI S s N) (h1 : N ≤ M) (h2 : M ≤ 1000) : ShI S s M :=
 ⟨h.up, fun k => by have := h.cache k; omega, h.hl, h.mq, h.may, h.lg, by have := h.nx; omega, by have := h.gen; omega, h2, h.w8, h.room⟩
theorem ShI.keep {r : Rc} {x : List Wr} {fl : Bool} (h : ShI S s N) (hN : N + 1 ≤ 1000) (hm : r.may x = true) (hmq : ∀ q ∈ (JL s.ps r x).1, Za q) (hw : wtP (JL s.ps r x).1 + (JL s.ps r x).1.length ≤ 8) (hr : s.n + (nOf (r.enc x).length : Nat) + ((wtP (JL s.ps r x).1 + (JL s.ps r x).1.length : Nat) : Int) ≤ s.a + 24) : ShI (s.keepD S r x fl) (s.keep r x) (N + 1) := by
 have hlg := h.lg; unfold Zb at hlg
 have h1 := h.nx; have h2 := h.w8; have h3 := h.gen; have h4 := h.few
 have hel := Zc hm
 have hno : nOf (r.enc x).length ≤ 2 := by grind [nOf]
 have hpc : ∀ k, (((jc S (V1 (r.enc x) s.n s.x.inc)).cache k).length : Int) ≤ 5 * (N + 1) := fun k => by
  have h8 := jp (S := S) (m := (5 * N).toNat) (V1 (r.enc x) s.n s.x.inc) (fun k => by have := h.cache k; omega) k
  grind [zA]
 refine ⟨?_, fun k => ?_, ?_, hmq, ?_, ?_, ?_, (show s.x.gen ≤ N + 1 by omega), hN, hw, hr⟩
 ·unfold Sh.keepD; split
  ·exact (vO _ _).trans h.up
  ·exact (vO _ _).trans h.up
 ·unfold Sh.keepD; split
  ·show ((0 : Nat) : Int) ≤ _; omega
  grind
 ·show (onF _ _).length = 32; rw [Ve]; exact h.hl
 ·obtain ⟨g0, g1, g2, g3, g4, g5, g6, g7⟩ := h.may
  have := JdV (o := s.x.owned) ⟨g5, g6⟩ h.mq r
  exact ⟨g0, g1, g2, g3, g4, this.1, this.2, g7⟩
 ·grind [Sh.keep]
 grind [Sh.keep]
/-! ### memory -/
theorem Z5 {α : Type} {P es A E : List α} {X D : α} : (P ++ (X :: D :: (es ++ (A ++ E)))).Perm (X :: D :: (es ++ ((P ++ A) ++ E))) := by
 have e : X :: D :: (es ++ ((P ++ A) ++ E)) = ([X, D] ++ es) ++ (P ++ (A ++ E)) := by simp
 have e2 : P ++ (X :: D :: (es ++ (A ++ E))) = P ++ (([X, D] ++ es) ++ (A ++ E)) := by simp
 rw [e, e2, ← List.append_assoc P, ← List.append_assoc ([X, D] ++ es)]
 exact List.perm_append_comm.append_right (A ++ E)
theorem ShM.close {E es : List Ent} {lo hi dc : Nat} {da : Option Addr} {cs : List Value} (hE : DkE bd S E) (hB : PrBk cs s.ps es)
 (M : Mem wc w (P ++ (shE b bd s (.slice da s.ps.length dc) :: Jd lo hi 57 6 (.slice da s.ps.length dc) s.ps.length cs :: (es ++ (A ++ E))))) : ShM wc w (P ++ A) b bd s S :=
 ⟨da, dc, lo, hi, cs, es, E, hE, hB, M.perm Z5⟩
theorem ShM.open (h : ShM wc w (P ++ A) b bd s S) : ∃ (da : Option Addr) (dc lo hi : Nat) (cs : List Value) (es E : List Ent), DkE bd S E ∧ PrBk cs s.ps es ∧
 Mem wc w (P ++ (shE b bd s (.slice da s.ps.length dc) :: Jd lo hi 57 6 (.slice da s.ps.length dc) s.ps.length cs :: (es ++ (A ++ E)))) := by
 obtain ⟨da, dc, lo, hi, cs, es, E, hE, hB, M⟩ := h
 exact ⟨da, dc, lo, hi, cs, es, E, hE, hB, M.perm Z5.symm⟩
theorem ShM.drop (h : ShM wc w (P ++ A) b bd s S) : ShM wc w A b bd s S := by
 obtain ⟨da, dc, lo, hi, cs, es, E, hE, hB, M⟩ := h
 exact ⟨da, dc, lo, hi, cs, es, E, hE, hB, M.sub (.cons_cons _ (.cons_cons _ ((List.Sublist.refl es).append ((List.sublist_append_right P A).append (List.Sublist.refl E)))))⟩
/-! ### scales -/
def wQ (ps : Pl) : Nat := wtP ps + ps.length
theorem Jhn {ps : Pl} {k : Nat} {q : Pr × List Wr} (h : ps[k]? = some q) : wQ (ps.take (k + 1)) = wQ (ps.take k) + (VS q + 1) := by
 grind [wQ, vk]
theorem Jjo (ps : Pl) (k : Nat) : wQ (ps.take k) ≤ wQ ps := by
 grind [Z0, List.take_append_drop, wQ]
theorem QV {H : List Ent} {bA : Nat} (n : Int) (q : Pr × List Wr) (ad : Option Addr) (cp : Nat) (M : Mem wc w (.blk bA #[.int .i64 n] 3 :: H)) (hm : Za q) (hW2 : ∀ W pre, Mem wc W (pre ++ H) → Ws 0 W.heap.size W (.slice ad q.2.length cp) q.2) (hn : 0 ≤ n ∧ n ≤ 1000) :
 CT 98 #[.agg (q.1.cellsL (.slice ad q.2.length cp)).toArray, pB bA] w fun e w' => e = .returned (.int .i64 (n + (VS q + 1 : Nat))) ∧ Mem wc w' (.blk bA #[.int .i64 (n + (VS q + 1 : Nat))] 3 :: H) := by
 have hs := yu hm
 refine qI Tryz.func98 24 ?_
 refine gp [[2]] ?_; intro a S
 refine qW_ S M ?_; intro a w1 bP S M hB
 refine gp [[0,1],[4,1],[902,0,3],[0,4,1,5,1,6,1]] ?_; intro a S
 refine qB_ Gs cz7 S ?_; intro a S
 refine qK S rfl (yC (jd q.1) ad q.2.length cp q.2 _ (by show (0 : Int) ≤ _; omega) (hW2 _ [_, _] M)) M ?_; intro a w2 S hK M
 rw [GT hm, if_pos (show (jd q.1).may q.2 = true from hm), show nOf ((jd q.1).enc q.2).length = VS q from rfl] at S
 refine go [[0,1,1,1,1,1],[4,2,1],[901],[901],[900,1],[4,2,1],[3],[930]] ?_; intro w3 M
 rw [show n + (((VS q : Nat) : Int) + 1) = n + ((VS q + 1 : Nat) : Int) by omega] at *
 exact ⟨rfl, M.drop 0⟩
end
set_option maxHeartbeats 1000000 in
set_option maxRecDepth 10000 in
theorem QU {wc w : World} {A es E : List Ent} {b bd lo hi : Nat} {s : Sh} {da : Option Addr} {dc : Nat} {cs : List Value} (hl : s.h.length = 32) (hB0 : PrBk cs s.ps es) (hmq : ∀ q ∈ s.ps, Za q) (hps : s.ps.length ≤ 8)
 (M : Mem wc w (shE b bd s (.slice da s.ps.length dc) :: Jd lo hi 57 6 (.slice da s.ps.length dc) s.ps.length cs :: (es ++ (A ++ E)))) :
 CT 52 #[pB b] w fun e w' => ∃ bA, e = .returned (.tuple #[.int .i64 (wQ s.ps : Nat), .func (.func 98) #[] #[pB bA]]) ∧ Mem wc w' (.blk bA #[.int .i64 (wQ s.ps : Nat)] 3 :: shE b bd s (.slice da s.ps.length dc) :: Jd lo hi 57 6 (.slice da s.ps.length dc) s.ps.length cs :: (es ++ (A ++ E))) := by
 have hw2 := Dq s.ps hmq
 refine qI Tryz.func52 25 ?_
 refine gp [[2,1,1],[4]] ?_; intro a S
 refine qN S M #[.int .i64 0] ?_; intro a w1 bA S M hB
 refine go [[900,0],[4]] ?_; intro a w2 S M
 refine qY S (Jx (fs := []) (cs := [.tmp 4]) S rfl rfl) ?_
 refine gp [[0,1],[5,1,1,2,272]] ?_; intro a S
 refine qY S (Jf S k_ rfl (M.cell 1 rfl (WO hl))) ?_
 refine gp [[904,57,2],[0,1],[3]] ?_; intro a S
 refine Jc (fun m a w' => ∃ (k : Nat), k ≤ s.ps.length ∧ m = s.ps.length - k ∧ Jk 25 a [(4, pB bA), (5, .func (.func 98) #[] #[pB bA]), (13, .slice da s.ps.length dc), (14, .int .i64 (s.ps.length : Int)), (15, .int .i64 (k : Int))] ∧ Mem wc w' (.blk bA #[.int .i64 (wQ (s.ps.take k) : Nat)] 3 :: shE b bd s (.slice da s.ps.length dc) :: Jd lo hi 57 6 (.slice da s.ps.length dc) s.ps.length cs :: (es ++ (A ++ E)))) (s.ps.length) ?_ ?_
 ·skip
  exact ⟨0, Nat.zero_le _, rfl, S.sub _ rfl, M⟩
 intro m a wl
 rintro ⟨k, hk, rfl, S, M⟩
 have hwk := Jjo s.ps k
 refine gq [[2,1],[3],[943,16]] ?_ ?_
 ·intro a h16 S
  refine gp [[8,1,1,1,1],[3],[931]] ?_
  grind
 intro a h16 S
 refine gp [[6]] ?_; intro a S
 obtain ⟨q, hq⟩ : ∃ q, s.ps[k]? = some q := ⟨_, List.getElem?_eq_getElem o_⟩
 obtain ⟨ad, cp, wlo, whi, hrow, hmem, hx⟩ := hB0.2.2 k q hq
 have hw9 : wQ s.ps ≤ 100 := by grind [wQ]
 refine gp [[1],[905,57,6,2]] ?_; intro a S
 refine qY S (Ja S k_ rfl rfl ((M.readAll 2 rfl (by grind [maxLen])).at_.row (i := k) hrow rfl)) ?_; intro a S
 refine qN S M zz ?_; intro a w3 bP S M hB
 refine go [[900,0],[2]] ?_; intro a w4 S M
 replace M := M.frn 1
 refine gp [[1,1],[902,1,6]] ?_; intro a S
 refine JR (xs := [.tmp 20]) (fi := []) (ca := [_]) S (Ji Tryz.func98 d_ rfl) rfl rfl (rfl) rfl (QV (wQ (s.ps.take k) : Nat) q ad cp M (hmq q (List.mem_of_getElem? hq)) (fun W pre M9 => Jfu M9 (List.mem_append_right _ (.tail _ (.tail _ (.tail _ (List.mem_append_left _ hmem))))) hx) o_) ?_
 rintro _ w5 ⟨rfl, M1⟩; have M := M1; clear M1
 refine gp [[4],[901],[0,1],[2]] ?_; intro a S
 replace M := M.drp 1
 refine ⟨s.ps.length - (k + 1), by omega, k + 1, by omega, rfl, S.sub _ rfl, ?_⟩
 grind [Jhn]
def U2 (wc : World) (A : List Ent) (b bd : Nat) (s : Sh) (S0 : DS) (r : Rc) (x : List Wr) (all : Int) (w' : World) : Prop :=
 ∃ s1 S1, ((s1 = s ∧ S1 = S0) ∨ (s1 = s.save ∧ S1 = s.saveD S0)) ∧ (nOf (r.enc x).length : Nat) + all ≤ 24 - (s1.n - s1.a) ∧ ShM wc w' A b bd (s1.keep r x) (s1.keepD S1 r x true)
set_option maxHeartbeats 1000000 in
set_option maxRecDepth 10000 in
theorem EC {w0 w : World} {A : List Ent} {b bd : Nat} {s : Sh} {S0 : DS} {N : Int} (r : Rc) (va : Option Addr) (vc : Nat) (x : List Wr) (all : Int) (hM : ShM w0 w A b bd s S0) (hI : ShI S0 s N) (hN : N + 2 ≤ 1000) (hs : r.shards ≤ 9223372036854775807) (hW : ∀ W, Mem w0 W A → Ws 0 W.heap.size W (.slice va x.length vc) x) (hx : x.length ≤ 1000000)
 (htk : YX r x = true) (hm : r.may x = true) (h0 : 0 ≤ all) (hall : (nOf (r.enc x).length : Nat) + all + (wtP s.ps : Nat) ≤ 24) :
 CT 53 #[pB b, .agg (r.cells (.slice va x.length vc)), .int .i64 all] w fun e w' => e = .returned (.int .i64 0) ∧ U2 w0 A b bd s S0 r x all w' := by
 obtain ⟨da, dc, lo, hi, cs, es, E, hE, hBk, M⟩ := hM
 have hl := hI.hl
 have hlg := hI.lg
 have hI2 := hI.save o_
 have hlg' := hlg
 unfold Zb at hlg'
 have hnx := hI.nx
 have hfew := hI.few
 have hno : 1 ≤ nOf (r.enc x).length ∧ nOf (r.enc x).length ≤ 2 := by grind [Zc, nOf]
 have hA : ∀ W H9, Mem w0 W (H9 ++ (es ++ (A ++ E))) → Ws 0 W.heap.size W (.slice va x.length vc) x := fun W H9 M9 => hW W (M9.sub (((List.sublist_append_left A E).trans (List.sublist_append_right es _)).trans (List.sublist_append_right H9 _)))
 refine qI Tryz.func53 37 ?_
 refine gp [[2]] ?_; intro a S
 refine qW_ S M ?_; intro a w1 bRr S M hB
 refine qG [1] S ?_; intro a S
 refine nxC (GL 1000 (fun l m a w' => (l = 0 ∧ (fun m a w' => m = 2 ∧ Jk 37 a [(0, pB b), (2, .int .i64 all), (4, pB bRr), (7, .int .i64 (nOf (r.enc x).length : Nat)), (9, .bool false)] ∧ Mem w0 w' (.blk bRr (r.cells (.slice va x.length vc)) 87 :: shE b bd s (.slice da s.ps.length dc) :: Jd lo hi 57 6 (.slice da s.ps.length dc) s.ps.length cs :: (es ++ (A ++ E)))) m a w') ∨ (l = 1 ∧ (fun m a w' => m = 1 ∧ ∃ (da : Option Addr) (dc lo hi : Nat) (cs : List Value) (es E : List Ent), DkE bd (s.saveD S0) E ∧ PrBk cs s.ps es ∧ Jk 37 a [(0, pB b), (2, .int .i64 all), (4, pB bRr), (7, .int .i64 (nOf (r.enc x).length : Nat)), (9, .bool true)] ∧ Mem w0 w' (.blk bRr (r.cells (.slice va x.length vc)) 87 :: shE b bd s.save (.slice da s.ps.length dc) :: Jd lo hi 57 6 (.slice da s.ps.length dc) s.ps.length cs :: (es ++ (A ++ E)))) m a w')) ?_ ?_)
 ·skip
  refine gp [[2],[902,0,12]] ?_; intro a S
  refine qK S rfl (yC r va x.length vc x _ hs (hA _ [_, _, _] M)) M ?_; intro a w2 S hK M
  rw [GT hm, if_pos hm] at S
  refine gp [[0,1,1,1,1,1],[5,1,1],[2],[941,16],[5,1],[3]] ?_; intro a S
  refine wp_label ?_
  refine gp [[4,1,1],[901],[0,1,1,2,14]] ?_; intro a S
  refine qY S (Ja (cs := [_, _]) S k_ rfl rfl (M.cellsAt (k := 2) 1 rfl (Wa _ _ _))) ?_; intro a S
  refine qK S rfl (Di _ _ _ o_) M ?_; intro a w3 S hK M
  refine gq [[0,1],[2],[940,27]] ?_ ?_
  ·intro a h27 S
   refine cT S (wp_goto ?_)
   refine VZ ?_
   refine Z4 ?_
   exact ⟨2, by omega, .inl ⟨rfl, rfl, S.sub _ rfl, M⟩⟩
  intro a h27 S
  refine gp [[5]] ?_; intro a S
  obtain ⟨s9, S9, hs9, hM9, hI9, hrm9⟩ : ∃ s9 S9, ((s9 = s ∧ S9 = S0) ∨ (s9 = s.save ∧ S9 = s.saveD S0)) ∧ ShM w0 w3 ([.blk bRr (r.cells (.slice va x.length vc)) 87] ++ A) b bd s9 S9 ∧ ShI S9 s9 (N + 1) ∧ ((nOf (r.enc x).length : Nat) : Int) + all ≤ 24 - (s9.n - s9.a) := by
   exact ⟨s, S0, .inl ⟨rfl, rfl⟩, ShM.close (s := s) (P := [_]) hE hBk M, hI.mono o_ o_, by omega⟩
  refine gp [[1,1],[902,0,12]] ?_; intro a S
  refine qD S rfl (G7 (A := [_] ++ A) (N := N + 1) r va vc x true hM9 hI9 hs (fun W M9 => hW W (M9.sub (List.sublist_append_right _ _))) hx htk hm o_) ?_
  rintro _ w4 ⟨rfl, hM2⟩; refine rv_ ?_; intro a S
  have M := Mem.start w4
  refine gp [[0,1],[4]] ?_; intro a S
  refine yA ?_
  refine qO S ?_
  exact ⟨rfl, s9, S9, hs9, hrm9, hM2.drop⟩
 intro l m a wc hJ; rcases hJ with ⟨rfl, hJ⟩ | ⟨rfl, hJ⟩
 ·refine ⟨_, rfl, ?_⟩
  obtain ⟨rfl, S, M⟩ := hJ
  refine gp [[6,1],[2],[941,31],[5,1],[5,1]] ?_; intro a S
  refine qD S rfl (Jdt (A := [_] ++ A) (ShM.close (P := [_]) hE hBk M) hI) ?_
  rintro _ w5 ⟨rfl, hM2⟩; refine rv_ ?_; intro a S
  obtain ⟨da2, dc2, lo2, hi2, cs2, es2, E2, hE2, hBk2, M⟩ := ShM.open hM2
  replace M := M.c_
  refine gp [[0,1],[4,1,1],[2],[941,35],[3]] ?_; intro a S
  refine wp_goto ?_
  refine Z4 ?_
  exact ⟨1, by omega, .inr ⟨rfl, rfl, da2, dc2, lo2, hi2, cs2, es2, E2, hE2, hBk2, S.sub _ rfl, M⟩⟩
 ·refine ⟨_, rfl, ?_⟩
  obtain ⟨rfl, da, dc, lo, hi, cs, es, E, hE, hBk, S, M⟩ := hJ
  refine gp [[6,1,1],[901],[0,1,1,2,14]] ?_; intro a S
  refine qY S (Ja (cs := [_, _]) S k_ rfl rfl (M.cellsAt (k := 2) 1 rfl (Wa _ _ _))) ?_; intro a S
  refine qK S rfl (Di _ _ _ (by exact hI2.lg)) M ?_; intro a w6 S hK M
  refine gq [[0,1],[2],[940,27]] ?_ ?_
  ·intro a h27 S
   refine cT S (wp_goto ?_)
   grind [Sh.save]
  intro a h27 S
  refine gp [[5]] ?_; intro a S
  obtain ⟨s9, S9, hs9, hM9, hI9, hrm9⟩ : ∃ s9 S9, ((s9 = s ∧ S9 = S0) ∨ (s9 = s.save ∧ S9 = s.saveD S0)) ∧ ShM w0 w6 ([.blk bRr (r.cells (.slice va x.length vc)) 87] ++ A) b bd s9 S9 ∧ ShI S9 s9 (N + 1) ∧ ((nOf (r.enc x).length : Nat) : Int) + all ≤ 24 - (s9.n - s9.a) := by
   exact ⟨s.save, s.saveD S0, .inr ⟨rfl, rfl⟩, ShM.close (s := s.save) (P := [_]) hE hBk M, hI2, by omega⟩
  refine gp [[1,1],[902,0,12]] ?_; intro a S
  refine qD S rfl (G7 (A := [_] ++ A) (N := N + 1) r va vc x true hM9 hI9 hs (fun W M9 => hW W (M9.sub (List.sublist_append_right _ _))) hx htk hm o_) ?_
  rintro _ w7 ⟨rfl, hM2⟩; refine rv_ ?_; intro a S
  have M := Mem.start w7
  refine gp [[0,1],[4]] ?_; intro a S
  refine yA ?_
  refine qO S ?_
  exact ⟨rfl, s9, S9, hs9, hrm9, hM2.drop⟩
section
variable {S0 : DS} {N : Int} {A : List Ent} {b bd : Nat} {s : Sh} {wc w : World}
abbrev r3 (nm : Nm) (y : Bool) : Rc := { Rc.zero with kind := 3, name := nm, yes := y }
theorem JdF {nm : Nm} (y : Bool) (h : nm.named = true) : (r3 nm y).may [] = true := by
 simp [Rc.may, Rc.ok, Rc.rest, Rc.zero, Rc.same, h, Nm.eqb, vx]
theorem WZ {r : Rc} {x : List Wr} (hm : r.may x = true) (hk : r.kind = 2) : jd (V0 r) = r := by
 rcases jN hm with ⟨a, -⟩ | ⟨-, e, -⟩ | ⟨a, -⟩ | ⟨a, -⟩ | ⟨a, -⟩ | ⟨a, -⟩ | ⟨a, -⟩
 all_goals first | omega | skip
 rw [e]; rfl
theorem Xd {q : Pr × List Wr} (h : Za q) : q.1.name.named = true := by
 rcases jN h with ⟨a, -⟩ | ⟨-, -, h1, -⟩ | ⟨a, -⟩ | ⟨a, -⟩ | ⟨a, -⟩ | ⟨a, -⟩ | ⟨a, -⟩
 all_goals first | (simp [jd] at a; done) | skip
 exact h1
theorem JgR {r : Rc} {x : List Wr} (h : r.may x = true) : x.length ≤ 8 := by
 have hw : ∀ {y : List Wr}, Jv y = true → y.length ≤ 8 := fun {y} h => by grind [Jv]
 rcases jN h with ⟨-, -, -, h1⟩ | ⟨-, -, -, h1, -⟩ | ⟨-, -, e, -⟩ | ⟨-, -, e, -⟩ | ⟨-, -, e, -⟩ | ⟨-, -, e, -⟩ | ⟨-, -, e, -⟩
 ·grind
 ·grind
 all_goals grind
def Ja7 (s : Sh) (r : Rc) (x : List Wr) : Prop := r.may x = true ∧ r.kind = 1 ∧ JO r.name s.ps = none
set_option maxHeartbeats 1000000 in
set_option maxRecDepth 10000 in
theorem Jae (r : Rc) (va : Option Addr) (vc : Nat) (x : List Wr) (hM : ShM wc w A b bd s S0) (hI : ShI S0 s N) (hN : N + 2 ≤ 1000) (hinc : 1 ≤ s.x.inc) (hs : r.shards ≤ 9223372036854775807) (hW : ∀ W, Mem wc W A → Ws 0 W.heap.size W (.slice va x.length vc) x) :
 CT 25 #[pB b, .agg (r.cells (.slice va x.length vc))] w fun e w' => ∃ er, e = .returned (.int .i64 er) ∧ ((er = 0 ∧ Ja7 s r x ∧ U2 wc A b bd s S0 r x (wQ s.ps : Nat) w') ∨ ((er = 2 ∨ er = 111) ∧ ShM wc w' A b bd s S0)) := by
 obtain ⟨da, dc, lo, hi, cs, es, E, hE, hBk, M⟩ := hM
 have hl := hI.hl
 have hw8 := hI.w8
 have hok := J4 s.x s.a s.n s.k hl
 have hA : ∀ W H9, Mem wc W (H9 ++ (es ++ (A ++ E))) → Ws 0 W.heap.size W (.slice va x.length vc) x := fun W H9 M9 => hW W (M9.sub (((List.sublist_append_left A E).trans (List.sublist_append_right es _)).trans (List.sublist_append_right H9 _)))
 refine qI Tryz.func25 48 ?_
 refine gp [[2]] ?_; intro a S
 refine qW_ S M ?_; intro a w1 bRr S M hB
 refine gp [[0,1],[5,1]] ?_; intro a S
 refine qY S (J9 k_ S rfl) ?_
 refine gp [[8,1,1,2,1,4]] ?_; intro a S
 refine qY S (Jf S k_ rfl (M.cell 1 rfl (Ku _ _ _))) ?_
 refine gq [[0,1,1],[941,18],[0,1,1,1,1,1],[940,23]] ?_ ?_
 ·intro a h23 S
  refine gp [[0,0,0,0,1],[5,1],[4],[930]] ?_
  exact ⟨2, rfl, .inr ⟨.inl rfl, ShM.close (P := []) hE hBk (M.drop 0)⟩⟩
 intro a h23 S
 refine gp [[902,0,12]] ?_; intro a S
 refine qK S rfl (zI r va x.length vc x _ hs (hA _ [_, _, _] M)) M ?_; intro a w2 S hK M
 refine gq [[0,1,1],[2],[940,27]] ?_ ?_
 ·intro a h27 S
  refine gp [[3,1],[4],[930]] ?_
  exact ⟨2, rfl, .inr ⟨.inl rfl, ShM.close (P := []) hE hBk (M.drop 0)⟩⟩
 intro a h27 S
 refine go [[5],[910],[911,0,1,1,2]] ?_; intro a w3 S M
 refine kR 3 S rfl M (fun w M => Ja (k := 273) S k_ rfl (by grind [St.len]) (M.cellsMid 1 rfl (by grind))) ?_
 refine gp [[911,4,2],[912,5,0,3]] ?_; intro a S
 refine k1_ 6 ?_
 refine qD S rfl (yQ s.st hok (.slice da s.ps.length dc) cs s.ps r.name _ (vC (A := A) (E := E) (pre := [_, _]) hBk o_ M)) ?_
 rintro _ w4 ⟨kk, yy, rfl, hK, hy⟩; replace M := M.grow hK
 refine gp [[2]] ?_; intro a S
 refine ⟨fun _ => hK, ?_⟩
 refine gq [[911,7,1,1,1,1,1],[4,1],[2],[940,38]] ?_ ?_
 ·intro a h38 S
  refine gp [[3,1],[4],[930]] ?_
  exact ⟨111, rfl, .inr ⟨.inr rfl, ShM.close (P := []) hE hBk (M.drop 0)⟩⟩
 intro a h38 S
 refine gp [[4]] ?_; intro a S
 obtain ⟨hm, h1⟩ : r.may x = true ∧ r.kind = 1 := by simp_all
 have hf : JO r.name s.ps = none := by
  grind
 have hx8 := JgR hm
 have hno : nOf (r.enc x).length ≤ 2 := by grind [Zc, nOf]
 replace M := M.perm (Z5 (P := [_]))
 refine gp [[1,1]] ?_; intro a S
 refine qD S rfl (QU (A := [_] ++ A) hl hBk hI.mq o_ M) ?_
 rintro _ w5 ⟨bA, rfl, M1⟩; refine rv_ ?_; intro a S
 have M := M1.perm (List.Perm.cons _ (Z5 (P := [_])).symm)
 clear M1
 replace M := M.c_
 refine gp [[0,1,1,1,1,1],[4,1],[902,1,12],[0,1]] ?_; intro a S
 refine qD S rfl (EC (A := [_, _] ++ A) r va vc x (wQ s.ps : Nat) (ShM.close (P := [_, _]) hE hBk M) hI hN hs (fun W M9 => hW W (M9.sub (List.sublist_append_right _ _))) o_ (by grind [YX]) hm o_ (by grind [wQ])) ?_
 rintro _ w6 ⟨rfl, hC⟩; refine rv_ ?_; intro a S
 have M := Mem.start w6
 refine gp [[0,1],[3],[930]] ?_
 obtain ⟨s1, S1, hs1, hr1, hM1⟩ := hC
 exact ⟨0, rfl, .inl ⟨rfl, ⟨hm, h1, hf⟩, s1, S1, hs1, hr1, hM1.drop⟩⟩
theorem EV {H : List Ent} {bA : Nat} (n : Int) (r : Rc) (x : List Wr) (ad : Option Addr) (cp : Nat) (M : Mem wc w (.blk bA #[.int .i64 n] 3 :: H)) (hm : Za (V0 r, x)) (hW2 : ∀ W pre, Mem wc W (pre ++ H) → Ws 0 W.heap.size W (.slice ad x.length cp) x) (hn : 0 ≤ n ∧ n ≤ 1000) :
 CT 98 #[.agg #[.int .i64 r.name.stamp, .int .i64 r.name.inc, .int .i64 r.name.try_, .slice ad x.length cp, .int .i64 r.give, .int .i64 r.take], pB bA] w fun e w' => e = .returned (.int .i64 (n + (VS (V0 r, x) + 1 : Nat))) ∧ Mem wc w' (.blk bA #[.int .i64 (n + (VS (V0 r, x) + 1 : Nat))] 3 :: H) :=
 QV n (V0 r, x) ad cp M hm hW2 hn
def Ko (s : Sh) (r : Rc) (x : List Wr) : Prop := r.may x = true ∧ r.kind = 2 ∧ JO r.name s.ps = none
set_option maxHeartbeats 1000000 in
set_option maxRecDepth 10000 in
theorem XD (r : Rc) (va : Option Addr) (vc : Nat) (x : List Wr) (hM : ShM wc w A b bd s S0) (hI : ShI S0 s N) (hN : N + 2 ≤ 1000) (hinc : 1 ≤ s.x.inc) (hs : r.shards ≤ 9223372036854775807) (hW : ∀ W, Mem wc W A → Ws 0 W.heap.size W (.slice va x.length vc) x) :
 CT 27 #[pB b, .agg (r.cells (.slice va x.length vc))] w fun e w' => ∃ er, e = .returned (.int .i64 er) ∧ ((er = 0 ∧ Ko s r x ∧ wQ s.ps + (nOf (r.enc x).length + 1) ≤ 8 ∧ U2 wc A b bd s S0 r x (wQ s.ps + (nOf (r.enc x).length + 1) : Nat) w') ∨ (er ≠ 0 ∧ (Ko s r x → er = 50 ∧ 8 < wQ s.ps + (nOf (r.enc x).length + 1)) ∧ ShM wc w' A b bd s S0)) := by
 obtain ⟨da, dc, lo, hi, cs, es, E, hE, hBk, M⟩ := hM
 have hl := hI.hl
 have hw8 := hI.w8
 have hok := J4 s.x s.a s.n s.k hl
 have hA : ∀ W H9, Mem wc W (H9 ++ (es ++ (A ++ E))) → Ws 0 W.heap.size W (.slice va x.length vc) x := fun W H9 M9 => hW W (M9.sub (((List.sublist_append_left A E).trans (List.sublist_append_right es _)).trans (List.sublist_append_right H9 _)))
 refine qI Tryz.func27 62 ?_
 refine gp [[2]] ?_; intro a S
 refine qW_ S M ?_; intro a w1 bRr S M hB
 refine gp [[0,1],[5,1]] ?_; intro a S
 refine qY S (J9 k_ S rfl) ?_
 refine gp [[8,1,1,2,1,4]] ?_; intro a S
 refine qY S (Jf S k_ rfl (M.cell 1 rfl (Ku _ _ _))) ?_
 refine gq [[0,1,1],[940,19]] ?_ ?_
 ·intro a h19 S
  refine gp [[0,0,0,0,1,1,0,0,0,1],[5,1],[4],[930]] ?_
  omega
 intro a h19 S
 refine gq [[0,1,1,1,1,1],[940,24]] ?_ ?_
 ·intro a h24 S
  refine gp [[0,0,0,0,1],[5,1],[4],[930]] ?_
  exact ⟨2, rfl, .inr ⟨by decide, (fun h9 => by obtain ⟨k1, k2, -⟩ := h9; simp_all), ShM.close (P := []) hE hBk (M.drop 0)⟩⟩
 intro a h24 S
 refine gp [[902,0,12]] ?_; intro a S
 refine qK S rfl (zI r va x.length vc x _ hs (hA _ [_, _, _] M)) M ?_; intro a w2 S hK M
 refine gq [[0,1,1],[2],[940,28]] ?_ ?_
 ·intro a h28 S
  refine gp [[3,1],[4],[930]] ?_
  exact ⟨2, rfl, .inr ⟨by decide, (fun h9 => by obtain ⟨k1, k2, -⟩ := h9; simp_all), ShM.close (P := []) hE hBk (M.drop 0)⟩⟩
 intro a h28 S
 refine go [[5],[910],[911,0,1,1,2]] ?_; intro a w3 S M
 refine kR 3 S rfl M (fun w M => Ja (k := 273) S k_ rfl (by grind [St.len]) (M.cellsMid 1 rfl (by grind))) ?_
 refine gp [[911,4,2],[912,5,0,3]] ?_; intro a S
 refine k1_ 6 ?_
 refine qD S rfl (yQ s.st hok (.slice da s.ps.length dc) cs s.ps r.name _ (vC (A := A) (E := E) (pre := [_, _]) hBk o_ M)) ?_
 rintro _ w4 ⟨kk, yy, rfl, hK, hy⟩; replace M := M.grow hK
 refine gp [[2]] ?_; intro a S
 refine ⟨fun _ => hK, ?_⟩
 refine gq [[911,7,1,1,1,1,1],[4,1],[2],[940,39]] ?_ ?_
 ·intro a h39 S
  refine gp [[3,1],[4],[930]] ?_
  exact ⟨111, rfl, .inr ⟨by decide, (fun h9 => by obtain ⟨-, -, k3⟩ := h9; grind), ShM.close (P := []) hE hBk (M.drop 0)⟩⟩
 intro a h39 S
 refine gp [[4]] ?_; intro a S
 obtain ⟨hm, h2⟩ : r.may x = true ∧ r.kind = 2 := by simp_all
 have hf : JO r.name s.ps = none := by
  grind
 have hx8 := JgR hm
 have hpr : jd (V0 r) = r := WZ hm h2
 have hmq : Za (V0 r, x) := by grind [Za]
 have hsq : VS (V0 r, x) = nOf (r.enc x).length := by grind [VS, yf]
 have hno : nOf (r.enc x).length ≤ 2 := by grind [Zc, nOf]
 replace M := M.perm (Z5 (P := [_]))
 refine gp [[1,1]] ?_; intro a S
 refine qD S rfl (QU (A := [_] ++ A) hl hBk hI.mq o_ M) ?_
 rintro _ w5 ⟨bA, rfl, M1⟩; refine rv_ ?_; intro a S
 have M := M1.perm (List.Perm.cons _ (Z5 (P := [_])).symm)
 clear M1
 replace M := M.c_
 refine gp [[0,1,1,1,1,1],[4,1,2],[902,1,3],[0,6,2,7,2,8,2]] ?_; intro a S
 refine qB_ [(0, 3), (3, 1), (4, 1), (5, 1)] zy S ?_; intro a S
 refine JR (xs := [.tmp 54]) (fi := []) (ca := [pB bA]) S (Ji Tryz.func98 d_ rfl) rfl rfl (rfl) rfl (EV (wQ s.ps : Nat) r x va vc M hmq (fun W pre M9 => hA W (pre ++ [_, _, _]) (by simpa only [List.append_assoc, List.cons_append, List.nil_append] using M9)) (by grind [wQ])) ?_
 rintro _ w6 ⟨rfl, M1⟩; refine rv_ ?_; intro a S
 rw [hsq, ← Int.natCast_add] at M1 S
 have M := M1
 clear M1
 refine gq [[0,1],[5,1,1],[2],[940,57]] ?_ ?_
 ·intro a h57 S
  refine gp [[3,1],[4],[930]] ?_
  exact ⟨50, rfl, .inr ⟨by decide, (fun _ => ⟨rfl, by omega⟩), ShM.close (P := []) hE hBk ((M.drop 0).drop 0)⟩⟩
 intro a h57 S
 refine gp [[5,1],[902,1,12],[0,1]] ?_; intro a S
 refine qD S rfl (EC (A := [_, _] ++ A) r va vc x (wQ s.ps + (nOf (r.enc x).length + 1) : Nat) (ShM.close (P := [_, _]) hE hBk M) hI hN hs (fun W M9 => hW W (M9.sub (List.sublist_append_right _ _))) o_ (by grind [YX]) hm o_ o_) ?_
 rintro _ w7 ⟨rfl, hC⟩; refine rv_ ?_; intro a S
 have M := Mem.start w7
 refine gp [[0,1],[3],[930]] ?_
 obtain ⟨s1, S1, hs1, hr1, hM1⟩ := hC
 exact ⟨0, rfl, .inl ⟨rfl, ⟨hm, h2, hf⟩, by omega, s1, S1, hs1, hr1, hM1.drop⟩⟩
theorem UM {nm : Nm} {ps : Pl} {k : Nat} (h : JO nm ps = some k) : ∃ q, ps[k]? = some q ∧ q.1.name = nm := by
 induction ps generalizing k with
 | nil => grind [JO]
 | cons p ps ih =>
   rw [JO] at h
   split at h
   ·grind [Nm.eqb_iff]
   ·cases hf : JO nm ps with
    | none => grind
    | some j =>
      grind
set_option maxHeartbeats 1000000 in
set_option maxRecDepth 10000 in
theorem XE (nm : Nm) (y : Bool) (hM : ShM wc w A b bd s S0) (hI : ShI S0 s N) (hinc : 1 ≤ s.x.inc) :
 CT 141 #[pB b, .agg nm.cells, .bool y] w fun e w' => ∃ er, e = .returned (.int .i64 er) ∧ ((er = 0 ∧ (∃ k, JO nm s.ps = some k) ∧ ShM wc w' A b bd (s.keep (r3 nm y) []) (s.keepD S0 (r3 nm y) [] y)) ∨ (er ≠ 0 ∧ er = 110 ∧ JO nm s.ps = none ∧ ShM wc w' A b bd s S0)) := by
 obtain ⟨da, dc, lo, hi, cs, es, E, hE, hBk, M⟩ := hM
 have hl := hI.hl
 have hw8 := hI.w8
 have hok := J4 s.x s.a s.n s.k hl
 refine qI Tryz.func141 35 ?_
 refine gp [[2]] ?_; intro a S
 refine qW_ S M ?_; intro a w1 bRr S M hB
 refine gp [[0,1],[5,1]] ?_; intro a S
 refine qY S (J9 k_ S rfl) ?_
 refine gp [[8,1,1,2,1,4]] ?_; intro a S
 refine qY S (Jf S k_ rfl (M.cell 1 rfl (Ku _ _ _))) ?_
 refine go [[0,1],[2],[941,17],[5],[910],[911,0,1,1,2]] ?_; intro a w2 S M
 refine kR 3 S rfl M (fun w M => Ja (k := 273) S k_ rfl (by grind [St.len]) (M.cellsMid 1 rfl (by grind))) ?_
 refine gp [[912,4,0,3]] ?_; intro a S
 refine k1_ 5 ?_
 refine qD S rfl (yQ s.st hok (.slice da s.ps.length dc) cs s.ps nm _ (vC (A := A) (E := E) (pre := [_, _]) hBk o_ M)) ?_
 rintro _ w3 ⟨kk, yy, rfl, hK, hy⟩; replace M := M.grow hK
 refine gp [[2]] ?_; intro a S
 refine ⟨fun _ => hK, ?_⟩
 refine gq [[911,6,1,1,1,1,1],[4,1,1],[2],[940,28]] ?_ ?_
 ·intro a h28 S
  refine gp [[3,1],[4],[930]] ?_
  exact ⟨110, rfl, .inr ⟨by decide, rfl, (hy.elim (fun h9 => by simp_all) (fun h9 => h9.2.2)), ShM.close (P := []) hE hBk (M.drop 0)⟩⟩
 intro a h28 S
 refine gp [[4]] ?_; intro a S
 have hf : JO nm s.ps = some kk := by
  grind
 obtain ⟨q, hq, hqn⟩ := UM hf
 have hmq := hI.mq q (List.mem_of_getElem? hq)
 have hm : (r3 nm y).may [] = true := JdF y (by grind [Xd])
 have hno : nOf ((r3 nm y).enc []).length ≤ 2 := by grind [Zc, nOf]
 have hrm := hI.room
 have hpl := (List.getElem?_eq_some_iff.1 hq).1
 have hsq := yu hmq
 have hw1 : VS q ≤ wtP s.ps := by
  have h1 := vk hq
  grind [Z0, List.take_append_drop]
 refine gp [[1,1],[902,0,3],[0,1]] ?_; intro a S
 refine qB_ Gs cz7 S ?_
 refine gp [[0,1]] ?_; intro a S
 refine qD S rfl (G7 (A := [_] ++ A) (N := N) (r3 nm y) none 0 [] y (ShM.close (P := [_]) hE hBk M) hI (by show (0 : Int) ≤ _; omega) (fun W M9 => Rd.nil 0 _ _ 9) d_ (by grind [YX]) hm o_) ?_
 rintro _ w4 ⟨rfl, hC⟩; refine rv_ ?_; intro a S
 have M := Mem.start w4
 refine gp [[0,1],[3],[930]] ?_
 exact ⟨0, rfl, .inl ⟨rfl, ⟨kk, hf⟩, hC.drop⟩⟩
end
def JkO (wc : World) (A E : List Ent) (S0 : DS) (x : Su) (l0 : Rl) (e : Ending) (w' : World) : Prop :=
 ∃ (s : St) (ps : Pl) (da : Option Addr) (dc lo hi : Nat) (cs : List Value) (es : List Ent), e = .returned (.tuple #[.agg (s.cellsL (.slice da ps.length dc)).toArray, .int .i64 0]) ∧
  Mem wc w' (Jd lo hi 57 6 (.slice da ps.length dc) ps.length cs :: (es ++ (A ++ E))) ∧ PrBk cs ps es ∧ s.ok ∧ ps.length ≤ 24 ∧ Jb1 (jZ x x.tail (Jbt S0 x.tail).next) [] l0 = (s, ps)
theorem UN {pl : Nat → Option (Nat × Nat)} {l us : List Value} {i off sz : Nat} {v : Value} {r : List (Nat × Value)} (hp : pl i = some (off, sz)) (hu : v.cells.toList = us) (hsz : us.length = sz) (hle : off + sz ≤ l.length) : YY pl l ((i, v) :: r) = YY pl (Jt l off us) r := by
 grind [YY, Nat.beq_refl, Nat.ble_eq_true_of_le]
abbrev KX : List Value := [.pointer none] ++ (zSt.cellsL (.slice none 0 0) ++ [])
theorem Je5 : KX.length = 274 := by
 grind [St.len, JH]
theorem Jh9 (bd : Nat) (s : Sh) (dv : Value) (hl : s.h.length = 32) : YY (fun i => [(0, 1), (1, 273)][i]?) KX [(0, pB bd), (1, .agg (s.st.cellsL dv).toArray)] = some (shC bd s dv) := by
 have l1 : (s.st.cellsL dv).length = 273 := St.len (J4 _ _ _ _ hl) _
 have e0 : Jt KX 0 [pB bd] = [pB bd] ++ (zSt.cellsL (.slice none 0 0) ++ []) := rfl
 rw [UN (us := [pB bd]) (off := 0) (sz := 1) rfl rfl rfl (by grind), e0, vT (us := s.st.cellsL dv) (off := 1) (sz := 273) rfl rfl l1 (by grind [St.len, JH])]
 grind [Yc, St.len, JH, shC]
def sh0 : Sh := ⟨Y6, 1, 1, List.replicate 32 zV8, 0, []⟩
def Sh.begun (s : Sh) (y : Su) : Sh := { s with x := { s.x with inc := s.x.inc + 1, gen := y.gen + 1 } }
def JkH (s : Sh) (y : Su) : Su := { y with inc := s.x.inc + 1, gen := y.gen + 1 }
theorem Jfr {bd : Nat} {s : Sh} {dv : Value} {k : Nat} {v : V8} (hl : s.h.length = 32) (hk : s.h[k]? = some v) : Vs (shC bd s dv).toArray.toList (16 + k * 8) 8 = some v.cellsL := by
 have hlt := (List.getElem?_eq_some_iff.1 hk).1
 have e : shC bd s dv = (pB bd :: (s.st.pre ++ Jo (s.h.take k))) ++ (v.cellsL ++ (Jo (s.h.drop (k + 1)) ++ [dv, .int .i64 s.k])) := by
  unfold shC
  rw [List.append_nil]
  show pB bd :: (s.st.pre ++ (Jo s.h ++ [dv, .int .i64 s.k])) = _
  grind [j5]
 grind [List.length_cons, JF, St.pre_len, J4, jF]
theorem zn {b bd : Nat} {s : Sh} {dv : Value} (k : Nat) (v : V8) (w : World) (hB : Blk w b (shC bd s dv).toArray 101) (hl : s.h.length = 32) (hk : s.h[k]? = some v) :
 CQ 11 #[pB b, .int .i64 (k : Int)] w (.tuple #[.agg v.cellsL.toArray, .int .i64 0]) := by
 have M := Mem.start w
 have hlt := (List.getElem?_eq_some_iff.1 hk).1
 have hBk := hB
 clear hB
 refine qI Tryz.func11 23 ?_; intro a S
 refine nxD (qN S M Kj ?_); intro a w1 bZ S M hB
 refine gp [[0,1],[5,1]] ?_; intro a S
 refine qY S (J9 k_ S rfl) ?_
 refine gp [[8,1,1,1],[941,11],[0,1,1,1],[2],[941,14],[5,1,1,1,2,16],[906,32,8]] ?_; intro a S
 rw [show 1 + 15 + k * 8 = 16 + k * 8 by omega] at S
 refine qY S (Ja (cs := v.cellsL) S k_ rfl rfl (Blk.cellsAt (k := 8) ((M.below.block b hBk.lt).trans hBk) (Jfr hl hk))) ?_
 refine go [[900,0],[0,1],[3]] ?_; intro a w2 S M
 refine Jr S rfl (rA_ 8 0 M) rT_ ?_
 exact ⟨rfl, M.below⟩
theorem Jcl (v : Value) (m : Nat) (cs : List Value) (w : World) (hv : Rd 0 w.heap.size w 6 v m cs) (hl : m ≤ 1000000) (h1 : Jp cs = true) : CT 65 #[v] w fun e w' => ∃ v', e = .returned v' ∧ Fresh w w' 57 6 v' m cs := by
 have M := Mem.start w
 refine qI Tryz.func65 8 ?_
 refine gp [[2,1],[5,1]] ?_; intro a S
 refine qY S (ZJ (e := 57) S rfl (M.arg hv) k_) ?_; intro a S
 refine nxC (Js (t := 4) S rfl ?_ ?_)
 ·intro h4 S
  refine gp [[3,1],[4],[930]] ?_
  obtain ⟨rfl, h0, h1⟩ := hv.nilV h4
  exact ⟨_, rfl, by rw [h1, h0]; exact M.freshNil _ _⟩
 intro h4 S
 refine cF S (wp_skip (nxE (jJ (e := 57) (sz := 6) (by_ := 64) (zc := zy) S M rfl rfl k_ ?_))); intro a w1 b1 S M hB
 refine qG [1] S ?_; intro a S
 replace M := M.toRow (sz := 6) (m := 0) (cap := 0) (xs := []) 0 rfl rfl (Nat.le_refl _) (Nat.zero_le _) rfl rfl
 refine JI (e := 57) (sz := 6) (by_ := 64) (zc := zy) S M 0 rfl rfl k_ rfl d_ rfl rfl rfl (M.arg hv) (h1) o_ (by grind [maxLen]) ?_; intro a w2 vA loA hiA S M
 refine gp [[0,1],[3],[930]] ?_
 exact ⟨_, rfl, by have := M.fresh 0 rfl; grind⟩
theorem JhI {p : Pr} {lv v' : Value} {ck rest : List Value} {k : Nat} (hk : ck.length = k * 6) : Jt (ck ++ (p.cellsL lv ++ rest)) (k * 6 + 3) [v'] = (ck ++ p.cellsL v') ++ rest := by
 rw [Yc _ _ _ (by grind)]
 have e1 : (ck ++ (p.cellsL lv ++ rest)).take (k * 6 + 3) = ck ++ [.int .i64 p.name.stamp, .int .i64 p.name.inc, .int .i64 p.name.try_] := by
  grind
 have e2 : (ck ++ (p.cellsL lv ++ rest)).drop (k * 6 + 3 + [v'].length) = [.int .i64 p.give, .int .i64 p.take] ++ rest := by
  rw [show k * 6 + 3 + [v'].length = ck.length + 4 by grind, List.drop_append, List.drop_of_length_le o_, List.nil_append, Nat.add_sub_cancel_left]; rfl
 grind
set_option maxHeartbeats 1000000 in
theorem EA (da : Option Addr) (dc : Nat) (cs : List Value) (ps : Pl) (w : World) (hd : PrsC cs 0 w.heap.size w (.slice da ps.length dc) ps) (hps : ps.length ≤ 1000) (hws : ∀ (i : Nat) (q : Pr × List Wr), ps[i]? = some q → q.2.length ≤ 1000000) (hcl : cs.length = ps.length * 6) (h1 : Jp cs = true) :
 CT 33 #[.slice da ps.length dc] w fun e w' => ∃ (ra : Option Addr) (rc lo hi : Nat) (cs2 : List Value) (es2 : List Ent), e = .returned (.slice ra ps.length rc) ∧ Mem w w' (Jd lo hi 57 6 (.slice ra ps.length rc) ps.length cs2 :: es2) ∧ PrBk cs2 ps es2 := by
 have M := Mem.start w
 refine qI Tryz.func33 24 ?_
 refine gp [[2,1],[4,1]] ?_; intro a S
 refine qD S rfl (Jcl _ ps.length cs _ (M.argW hd.1) o_ h1) ?_
 rintro _ w1 ⟨v2, rfl, hF⟩; refine rv_ ?_; intro a S
 obtain ⟨lo, hi, -, M1⟩ := M.pushFresh hF; clear M; have M := M1; clear M1
 obtain ⟨ra, rc, rfl, -, -⟩ := (M.readAll 0 rfl (by grind [maxLen])).form
 refine gp [[0,1],[5,1],[903,57],[0,1],[3]] ?_; intro a S
 refine Jc (fun m a w' => ∃ (k : Nat) (ck : List Value) (es : List Ent) (lo hi : Nat), k ≤ ps.length ∧ m = ps.length - k ∧ PrBk ck (ps.take k) es ∧ Jk 24 a [(3, .slice ra ps.length rc), (8, .int .i64 (ps.length : Int)), (9, .int .i64 (k : Int))] ∧ Mem w w' (Jd lo hi 57 6 (.slice ra ps.length rc) ps.length (ck ++ cs.drop (k * 6)) :: es)) (ps.length) ?_ ?_
 ·skip
  exact ⟨0, [], [], lo, hi, Nat.zero_le _, rfl, PrBk.nil, S.sub _ rfl, by grind⟩
 intro m a wl
 rintro ⟨k, ck, es, lo, hi, hk, rfl, hBk, S, M⟩
 refine gq [[2,1],[3],[943,10]] ?_ ?_
 ·intro a h10 S
  refine gp [[8,1,1],[3],[930]] ?_
  grind
 intro a h10 S
 refine gp [[7,1,1],[2]] ?_; intro a S
 have hk' : k < ps.length := by omega
 obtain ⟨q, hq⟩ : ∃ q, ps[k]? = some q := ⟨_, List.getElem?_eq_getElem hk'⟩
 obtain ⟨ad, cp, hrow, hw⟩ := hd.sl hq
 have hck : ck.length = k * 6 := by rw [hBk.1, List.length_take, Nat.min_eq_left hk]
 have hdr : cs.drop (k * 6) = q.1.cellsL (.slice ad q.2.length cp) ++ cs.drop ((k + 1) * 6) := by
  grind [List.drop_drop, List.take_append_drop]
 have hrl : (ck ++ cs.drop (k * 6)).length = ps.length * 6 := by grind
 have hrow2 : ((ck ++ cs.drop (k * 6)).drop (k * 6)).take 6 = q.1.cellsL (.slice ad q.2.length cp) := by
  grind
 refine gp [[1,1,1,1,1],[905,57,6,0],[0,4]] ?_; intro a S
 refine qY S (Jf S k_ rfl (((M.readAll 0 rfl (by grind [maxLen])).at_.row (i := k) hrow2 rfl) 3 (by grind))) ?_; intro a S
 refine qD S rfl (ve _ q.2 _ (M.argW hw) (hws k q hq)) ?_
 rintro _ w2 ⟨v3, rfl, hF⟩; refine rv_ ?_; intro a S
 obtain ⟨wa, wcp, rfl, -, -⟩ := (hF.rd (by have := hws k q hq; grind [maxLen])).form
 obtain ⟨lo1, hi1, -, M1⟩ := M.pushFresh hF; clear M; have M := M1; clear M1
 refine gp [[905,57,6,1],[0,4]] ?_; intro a S
 refine Vh (v := .slice ra ps.length rc) (sz := 6) (m := ps.length) (j := k * 6 + 3) (us := [.slice wa q.2.length wcp]) S M 1 rfl k_ rfl rfl (by rfl) rfl rfl rfl rfl rfl o_ hrl (by rw [hrl]; show k * 6 + 3 + 1 ≤ _; omega) ?_; intro wz lo9 hi9 M
 replace M := M.e_
 rw [hdr, JhI hck] at M
 refine gp [[4],[901],[0,1],[2]] ?_; intro a S
 have hB2 := hBk.more (q := q) (ad := wa) (cp := wcp) (lo := lo1) (hi := hi1) (hws k q hq)
 rw [← zR hq] at hB2
 exact ⟨ps.length - (k + 1), by omega, k + 1, _, _, lo9, hi9, by omega, rfl, hB2, S.sub _ rfl, M⟩
set_option maxHeartbeats 1000000 in
set_option maxRecDepth 10000 in
theorem ZT {b bd : Nat} {s : Sh} {da : Option Addr} {dc : Nat} {cs : List Value} {es : List Ent} (w : World) (hB : Blk w b (shC bd s (.slice da s.ps.length dc)).toArray 101) (hd : PrsC cs 0 w.heap.size w (.slice da s.ps.length dc) s.ps) (hBk : PrBk cs s.ps es) (hl : s.h.length = 32) (hps : s.ps.length ≤ 24) :
 CT 8 #[pB b] w fun e w' => ∃ (ra : Option Addr) (rc lo hi : Nat) (cs2 : List Value) (es2 : List Ent), e = .returned (.slice ra s.ps.length rc) ∧ PrBk cs2 s.ps es2 ∧ Mem w w' (Jd lo hi 57 6 (.slice ra s.ps.length rc) s.ps.length cs2 :: es2) := by
 have M := Mem.start w
 have hBb := hB
 clear hB
 refine qI Tryz.func8 11 ?_
 refine gp [[2,1],[5,1]] ?_; intro a S
 refine qY S (J9 k_ S rfl) ?_
 refine gp [[7,1,1,2,272]] ?_; intro a S
 refine qY S (Jf S k_ rfl (((show Blk _ b _ _ from (M.below.block b hBb.lt).trans hBb).cells 272).trans (WO hl))) ?_; intro a S
 refine qD S rfl (EA da dc cs s.ps _ (M.prsW hd) o_ hBk.short hBk.1 hBk.2.1) ?_
 rintro _ w1 ⟨ra, rc, lo2, hi2, cs2, es2, rfl, M2, hB2⟩; refine rv_ ?_; intro a S
 replace M := M.join M2
 refine gp [[0,1],[3],[930]] ?_
 grind
theorem KU {wc w : World} {H : List Ent} {b bd : Nat} {s : Sh} {da : Option Addr} {dc : Nat} {cs : List Value} {es : List Ent} (M : Mem wc w (shE b bd s (.slice da s.ps.length dc) :: H)) (hd : ∀ W pre, Mem wc W (pre ++ (shE b bd s (.slice da s.ps.length dc) :: H)) → PrsC cs 0 W.heap.size W (.slice da s.ps.length dc) s.ps) (hBk : PrBk cs s.ps es) (hl : s.h.length = 32) (hps : s.ps.length ≤ 24) :
 CT 8 #[pB b] w fun e w' => ∃ (ra : Option Addr) (rc lo hi : Nat) (cs2 : List Value) (es2 : List Ent), e = .returned (.slice ra s.ps.length rc) ∧ PrBk cs2 s.ps es2 ∧ Mem wc w' (Jd lo hi 57 6 (.slice ra s.ps.length rc) s.ps.length cs2 :: (es2 ++ (shE b bd s (.slice da s.ps.length dc) :: H))) :=
 (ZT w (M.blk 0 rfl) (hd w [] M) hBk hl hps).mono fun _ _ ⟨ra, rc, lo, hi, cs2, es2, h1, h2, M2⟩ => ⟨ra, rc, lo, hi, cs2, es2, h1, h2, M.join M2⟩
section
variable {es : List Ent}
abbrev Jz : Value := .slice none 0 0
structure Lv where
 name : Nm
 n : Int
 told : Bool
 ans : Msg
 exec : Msg
 ea : Option Addr
 ec : Nat
abbrev Lr := Lv × List Wr
abbrev Lv.cellsL (l : Lv) (lv : Value) : List Value := [.int .i64 l.name.stamp, .int .i64 l.name.inc, .int .i64 l.name.try_, .int .i64 l.n, .bool l.told] ++ ((l.ans.cells Jz).toList ++ ((l.exec.cells (.slice l.ea 0 l.ec)).toList ++ [lv]))
abbrev lvS : Shp Lr := ⟨54, fun q lv => q.1.cellsL lv, fun q => q.2, fun _ _ => rfl, fun q lv h => by cases lv <;> first | rfl | cases h⟩
abbrev pmS : Shp (Msg × List Wr) := ⟨24, fun q lv => (q.1.cells lv).toList, fun q => q.2, fun _ _ => rfl, fun q lv h => by cases lv <;> first | rfl | cases h⟩
abbrev doS : Shp (Nm × Int) := ⟨4, fun q _ => [.int .i64 q.1.stamp, .int .i64 q.1.inc, .int .i64 q.1.try_, .int .i64 q.2], fun _ => [], fun _ _ => rfl, fun _ _ _ => rfl⟩
abbrev peS : Shp (Nm × Bool) := ⟨4, fun q _ => [.int .i64 q.1.stamp, .int .i64 q.1.inc, .int .i64 q.1.try_, .bool q.2], fun _ => [], fun _ _ => rfl, fun _ _ _ => rfl⟩
abbrev Mls := List (Msg × List Wr)
structure Px where
 h : List Lk
 wt : List Lk
 lv : List Lr
 ov : List (Nm × Int)
 ml : Mls
 el : List (Nm × Bool)
structure PxD where
 ha : Option Addr
 wa : Option Addr
 la : Option Addr
 oa : Option Addr
 ma : Option Addr
 ea : Option Addr
 hc : Nat
 wc : Nat
 lc : Nat
 oc : Nat
 mc : Nat
 ec : Nat
 h1 : Nat
 h2 : Nat
 w1 : Nat
 w2 : Nat
 l1 : Nat
 l2 : Nat
 o1 : Nat
 o2 : Nat
 m1 : Nat
 m2 : Nat
 e1 : Nat
 e2 : Nat
 lcs : List Value
 ocs : List Value
 mcs : List Value
 ecs : List Value
structure PxC where
 b : Nat
 bs : Nat
 self : Int
 m : Msg
 va : Option Addr
 vn : Nat
 vc : Nat
abbrev PxD.cells (D : PxD) (X : Px) (C : PxC) (er : Int) : Array Value :=
 #[.slice D.ha X.h.length D.hc, .slice D.wa X.wt.length D.wc, .slice D.la X.lv.length D.lc, .slice D.oa X.ov.length D.oc, pB C.bs, .int .i64 C.self,
  .int .i8 C.m.kind, .int .i64 C.m.frm, .int .i64 C.m.to, .int .i64 C.m.inc, .int .i64 C.m.your, .int .i64 C.m.name.stamp, .int .i64 C.m.name.inc, .int .i64 C.m.name.try_, .int .i64 C.m.n, .int .i8 C.m.op, .int .i64 C.m.block,
  .int .u8 (C.m.val.v0.toNat : Int), .int .u8 (C.m.val.v1.toNat : Int), .int .u8 (C.m.val.v2.toNat : Int), .int .u8 (C.m.val.v3.toNat : Int), .int .u8 (C.m.val.v4.toNat : Int), .int .u8 (C.m.val.v5.toNat : Int), .int .u8 (C.m.val.v6.toNat : Int), .int .u8 (C.m.val.v7.toNat : Int), .int .i64 C.m.e, .bool C.m.yes, .int .i64 C.m.give, .int .i64 C.m.take, .slice C.va C.vn C.vc,
  .slice D.ma X.ml.length D.mc, Jz, .slice D.ea X.el.length D.ec, .int .i64 er]
abbrev PxD.ents (D : PxD) (X : Px) (C : PxC) (er : Int) (R : List Ent) : List Ent :=
 .blk C.b (D.cells X C er) 106 :: Jd D.h1 D.h2 110 5 (.slice D.ha X.h.length D.hc) X.h.length (Jg X.h) :: Jd D.w1 D.w2 110 5 (.slice D.wa X.wt.length D.wc) X.wt.length (Jg X.wt) ::
  Jd D.l1 D.l2 59 54 (.slice D.la X.lv.length D.lc) X.lv.length D.lcs :: Jd D.o1 D.o2 160 4 (.slice D.oa X.ov.length D.oc) X.ov.length D.ocs ::
  Jd D.m1 D.m2 46 24 (.slice D.ma X.ml.length D.mc) X.ml.length D.mcs :: Jd D.e1 D.e2 235 4 (.slice D.ea X.el.length D.ec) X.el.length D.ecs :: R
structure PxI (D : PxD) (X : Px) (es : List Ent) : Prop where
 lv : BkG lvS D.lcs X.lv es
 ov : BkG doS D.ocs X.ov es
 ml : BkG pmS D.mcs X.ml es
 el : BkG peS D.ecs X.el es
structure Px.few (X : Px) : Prop where
 lv : X.lv.length ≤ 1000
 ov : X.ov.length ≤ 1000
 ml : X.ml.length ≤ 1000
 el : X.el.length ≤ 1000
 h : X.h.length ≤ 1000
 wt : X.wt.length ≤ 1000
def PxM (wc w : World) (R : List Ent) (C : PxC) (X : Px) (er : Int) : Prop := ∃ D es, PxI D X es ∧ Mem wc w (D.ents X C er (es ++ R))
theorem PxI.mono {D : PxD} {X : Px} {es' : List Ent} (h : PxI D X es) (hs : ∀ e ∈ es, e ∈ es') : PxI D X es' := ⟨h.lv.mono hs, h.ov.mono hs, h.ml.mono hs, h.el.mono hs⟩
theorem PxI.live {wc w : World} {R : List Ent} {C : PxC} {X : Px} {er : Int} {D : PxD} (h : PxI D X es) (M : Mem wc w (D.ents X C er (es ++ R))) (hf : X.few) : RowC lvS D.lcs 0 w.heap.size w (.slice D.la X.lv.length D.lc) X.lv :=
 (h.lv.rowC M (.tail _ (.tail _ (.tail _ (.head _)))) (fun e he => by grind) (by have := hf.lv; grind [maxLen])).wide (Nat.zero_le _) (Nat.le_refl _)
theorem PxI.over {wc w : World} {R : List Ent} {C : PxC} {X : Px} {er : Int} {D : PxD} (h : PxI D X es) (M : Mem wc w (D.ents X C er (es ++ R))) (hf : X.few) : RowC doS D.ocs 0 w.heap.size w (.slice D.oa X.ov.length D.oc) X.ov :=
 (h.ov.rowC M (.tail _ (.tail _ (.tail _ (.tail _ (.head _))))) (fun e he => by grind) (by have := hf.ov; grind [maxLen])).wide (Nat.zero_le _) (Nat.le_refl _)
end
section
variable {S0 : DS} {N : Int} {A : List Ent} {b bd : Nat} {s : Sh} {wc w' : World}
structure WentTo (wc : World) (A : List Ent) (b bd : Nat) (s s' : Sh) (N : Int) (w' : World) : Prop where
 it : ∃ S', ShI S' s' N ∧ ShM wc w' A b bd s' S'
 inc : s'.x.inc = s.x.inc
theorem EB {s1 : Sh} {S1 : DS} (hI : ShI S0 s N) (hN : N + 1 ≤ 1000) (h : (s1 = s ∧ S1 = S0) ∨ (s1 = s.save ∧ S1 = s.saveD S0)) : ShI S1 s1 (N + 1) ∧ s1.ps = s.ps ∧ s1.h = s.h ∧ s1.x.inc = s.x.inc ∧ s1.x.owned = s.x.owned := by
 rcases h with ⟨rfl, rfl⟩ | ⟨rfl, rfl⟩
 ·exact ⟨hI.mono o_ hN, rfl, rfl, rfl, rfl⟩
 ·exact ⟨hI.save hN, rfl, rfl, rfl, rfl⟩
theorem Jew {r : Rc} {x : List Wr} (hI : ShI S0 s N) (hN : N + 2 ≤ 1000) (hok : Ja7 s r x) (h : U2 wc A b bd s S0 r x (wQ s.ps : Nat) w') :
 ∃ s', s'.h = onF s.h x ∧ s'.ps = s.ps ∧ s'.x.owned = s.x.owned ∧ WentTo wc A b bd s s' (N + 2) w' := by
 obtain ⟨s1, S1, h1, h2, hM⟩ := h
 obtain ⟨hm, hk, hf⟩ := hok
 obtain ⟨hI1, e1, e2, e3, e4⟩ := EB hI o_ h1
 have hst : ∀ ps, JL ps r x = (ps, x) := fun ps => by grind [JL]
 have hw := hI1.w8
 have hm1 := hI1.mq
 refine ⟨s1.keep r x, by show onF s1.h (JL s1.ps r x).2 = _; grind, by show (JL s1.ps r x).1 = _; grind, by show Zw s1.x.owned s1.ps r = _; grind [Zw], ⟨⟨_, ?_, hM⟩, e3⟩⟩
 have := hI1.keep (r := r) (x := x) (fl := true) o_ hm (by grind) (by grind) (by grind [wQ])
 grind
theorem Jf3 {r : Rc} {x : List Wr} (hI : ShI S0 s N) (hN : N + 2 ≤ 1000) (hok : Ko s r x) (h8 : wQ s.ps + (nOf (r.enc x).length + 1) ≤ 8) (h : U2 wc A b bd s S0 r x (wQ s.ps + (nOf (r.enc x).length + 1) : Nat) w') :
 ∃ s', s'.h = s.h ∧ s'.ps = s.ps ++ [(V0 r, x)] ∧ s'.x.owned = s.x.owned ∧ WentTo wc A b bd s s' (N + 2) w' := by
 obtain ⟨s1, S1, h1, h2, hM⟩ := h
 obtain ⟨hm, hk, hf⟩ := hok
 obtain ⟨hI1, e1, e2, e3, e4⟩ := EB hI o_ h1
 have hst : JL s1.ps r x = (s1.ps ++ [(V0 r, x)], []) := by grind [JL]
 have hpr : jd (V0 r) = r := WZ hm hk
 have hmq : Za (V0 r, x) := by grind [Za]
 have hsq : VS (V0 r, x) = nOf (r.enc x).length := by grind [VS, yf]
 have hW : wQ (s1.ps ++ [(V0 r, x)]) = wQ s.ps + (nOf (r.enc x).length + 1) := by
  grind [wQ, Dp]
 have hm1 := hI1.mq
 refine ⟨s1.keep r x, by show onF s1.h (JL s1.ps r x).2 = _; rw [hst]; exact e2, by show (JL s1.ps r x).1 = _; grind, by show Zw s1.x.owned s1.ps r = _; grind [Zw], ⟨⟨_, ?_, hM⟩, e3⟩⟩
 have := hI1.keep (r := r) (x := x) (fl := true) o_ hm (by
  grind) (by grind [wQ]) (by grind [wQ])
 grind
theorem Jfe {ps : Pl} {k : Nat} {q : Pr × List Wr} (hq : ps[k]? = some q) : wQ (ps.eraseIdx k) + (VS q + 1) = wQ ps := by
 have hl := (List.getElem?_eq_some_iff.1 hq).1
 have h1 : wtP ps = wtP (ps.take (k + 1)) + wtP (ps.drop (k + 1)) := by rw [← Z0, List.take_append_drop]
 grind [wQ, Z0, vk]
theorem JiY {nm : Nm} {y : Bool} {k : Nat} (hI : ShI S0 s N) (hN : N + 2 ≤ 1000) (hf : JO nm s.ps = some k) (hM : ShM wc w' A b bd (s.keep (r3 nm y) []) (s.keepD S0 (r3 nm y) [] y)) :
 ∃ q, s.ps[k]? = some q ∧ q.1.name = nm ∧ (s.keep (r3 nm y) []).h = onF s.h (if y = true then q.2 else []) ∧ (s.keep (r3 nm y) []).ps = s.ps.eraseIdx k ∧ WentTo wc A b bd s (s.keep (r3 nm y) []) (N + 2) w' := by
 obtain ⟨q, hq, hqn⟩ := UM hf
 have hmq := hI.mq q (List.mem_of_getElem? hq)
 have hm : (r3 nm y).may [] = true := JdF y (by grind [Xd])
 have hno : nOf ((r3 nm y).enc []).length ≤ 2 := by grind [Zc, nOf]
 have hst : JL s.ps (r3 nm y) [] = (s.ps.eraseIdx k, if y = true then q.2 else []) := by
  grind [JL]
 have hw := hI.w8
 have hwe := Jfe hq
 have hrm := hI.room
 have hsq := yu hmq
 have e8 : wQ s.ps = wtP s.ps + s.ps.length := rfl
 refine ⟨q, hq, hqn, by show onF s.h (JL s.ps (r3 nm y) []).2 = _; rw [hst], by show (JL s.ps (r3 nm y) []).1 = _; rw [hst], ⟨⟨_, ?_, hM⟩, rfl⟩⟩
 have := hI.keep (r := r3 nm y) (x := []) (fl := y) o_ hm (by
  rw [hst]; intro p hp
  exact hI.mq p (List.mem_of_mem_eraseIdx hp)) (by grind [wQ]) (by grind [wQ])
 exact this.mono o_ hN
def sh1 : Sh := sh0.begun Y6
end
def JjE (S : DS) : Prop := ∀ k, k < 8 → JB (S.get (26 + k)) = true
def suM (m : Su) : Su := { m with gen := 1, tail := 1, owned := 0, inc := 0, bound := 1 }
def JkX (m : Su) : List Value := [.int .i64 m.m0, .int .i64 m.m1, .int .i64 m.m2, .int .i64 m.m3, .int .i64 m.m4, .int .i64 m.m5, .int .i64 m.m6, .int .i64 m.m7]
def s1M (m : Su) : Ls := ⟨suM m, Gt (suM m), 1, []⟩
def suO (o : Int) : Su := { Y6 with gen := 1, owned := o }
def shF (x : Su) (n : Int) : Sh := ⟨x, x.tail, n, List.replicate 32 zV8, 0, []⟩
abbrev JjI (o : Int) : Sh := shF (suO o) 1
def Sh.owned_ (s : Sh) (y : Su) (o : Int) : Sh := { s with x := { s.x with owned := o, gen := y.gen + 1 } }
def JkA (y : Su) (o : Int) : Su := { y with owned := o, gen := y.gen + 1 }
theorem Zn : ∀ (l : List Value) (o : Nat) (u : Value), Jp l = true → Gg u = true → Jp (l.set o u) = true
 | [], _, _, h, _ => h
 | x :: l, 0, u, h, hu => by
   grind [Jp]
 | x :: l, o + 1, u, h, hu => by
   rw [List.set_cons_succ]; simp only [Jp, Bool.and_eq_true] at h ⊢; exact ⟨h.1, Zn l o u h.2 hu⟩
theorem KV : ∀ (us l : List Value) (o : Nat), Jp l = true → Jp us = true → Jp (Jt l o us) = true
 | [], l, o, h, _ => h
 | u :: us, l, o, h, hu => by
   simp only [Jp, Bool.and_eq_true] at hu
   exact KV us _ _ (Zn l o u h hu.1) hu.2
abbrev z4C : List Value := y7 [.int .u8 0, .int .u8 0, .int .u8 0, .int .u8 0, .int .u8 0, .int .u8 0, .int .u8 0, .int .u8 0] 32
theorem Jey {wo w : World} {A E : List Ent} {b : Nat} {S0 : RS} (k : Nat) (hE : R3E b S0 E) (M : Mem wo w (A ++ E)) (hc : S0.cache.length ≤ 1000) (hk : k < 8) (hz : JB (S0.get (26 + (k : Int))) = true) :
 CT 92 #[p_ b, .int .i64 (k : Int)] w fun e w' => ∃ b2, e = .returned (.tuple #[.slice (some ⟨b2, 0, none⟩) 4 4, .int .i64 0]) ∧ Mem wo w' (.blk b2 z4C.toArray 39 :: (A ++ E)) := by
 refine qI Tryz.func92 61 ?_
 refine gp [[2,1,1],[5,1,1,1],[941,15],[0,1,1,1],[2],[941,18],[5,1,1],[901]] ?_; intro a S
 refine qD S rfl (GW (26 + (k : Int)) hE M hc o_) ?_
 rintro _ w1 ⟨q, rfl, hqb, hq64, M1⟩; have M := M1; clear M1
 refine gp [[0,1,1,1,1,1],[5,1,1],[2],[941,27],[5]] ?_; intro a S
 refine Z2 (e := 39) (sz := 8) (by_ := 8) (zc := Ki) S M rfl rfl k_ rfl rfl o_ o_ o_ o_ ?_; intro a w2 bN S M hB
 try simp only [Int.reduceToNat, Nat.reduceMul] at S M
 refine gp [[0,1],[5,1]] ?_; intro a S
 refine qK S rfl (Gq q.val q.bs _ (M.readAll 1 rfl (by grind [maxLen]))) M ?_; intro a w3 S hK M
 refine nxC (qf 31 S ?_ ?_)
 ·intro h31 S
  rw [hqb, hz] at h31; cases h31
 intro h31 S
 refine gp [[3,1,1,1],[4],[931]] ?_
 exact ⟨bN, rfl, M.sub (.cons_cons _ (.cons _ (.refl _)))⟩
theorem Jjk : z4C = List.replicate 32 (.int .u8 0) := by kernel_rfl
theorem Jin {j : Nat} (h : j < 4) : Vs z4C.toArray.toList (j * 8) 8 = some [.int .u8 0, .int .u8 0, .int .u8 0, .int .u8 0, .int .u8 0, .int .u8 0, .int .u8 0, .int .u8 0] := by
 rw [show z4C.toArray.toList = List.replicate 32 (.int .u8 0) from Jjk]
 have h4 : j = 0 ∨ j = 1 ∨ j = 2 ∨ j = 3 := by omega
 rcases h4 with rfl | rfl | rfl | rfl <;> rfl
set_option maxHeartbeats 2000000 in
set_option maxRecDepth 10000 in
theorem Jaa {wo w : World} {A E : List Ent} {b : Nat} {S0 : RS} {x : Su} (hE : R3E b S0 E) (M : Mem wo w (A ++ E)) (hc : S0.cache.length ≤ 1000) (hg : gsR (Vx S0) = (x, 0)) (ht : 1 ≤ x.tail ∧ x.tail ≤ 1099511627776) (hz : ∀ k, k < 8 → JB (S0.get (26 + ((k : Nat) : Int))) = true) (hs : S0.get (2 + x.tail % 24) = zer64) :
 CT 49 #[p_ b] w fun e w' => ∃ cs : List Value, cs.length = 273 ∧ Jp cs = true ∧ e = .returned (.tuple #[.agg cs.toArray, .int .i64 0]) ∧ Mem wo w' (A ++ E) := by
 refine qI Tryz.func49 98 ?_; intro a S
 refine nxD (qN S M (zSt.cellsL (.slice none 0 0)).toArray ?_); intro a w1 bR S M hB
 refine qG [1] S ?_; intro a S
 refine nxA (qN S M (zSt.cellsL (.slice none 0 0)).toArray ?_); intro a w2 bST S M hB
 refine gp [[4,1]] ?_; intro a S
 refine qD S rfl (Jgb (A := _ :: _ :: A) hE M hc) ?_
 rintro _ w3 ⟨rfl, M1, -⟩; refine rv_ ?_; intro a S; have M := M1; clear M1
 rw [hg] at S
 simp only [List.cons_append] at M
 refine qG [1, 1, 1] S ?_; intro a S
 refine qN S M cz2 ?_; intro a w4 bSU S M hB
 refine go [[900,0],[0,1],[5,1,1],[2],[941,23],[5],[902,0,13],[0,1]] ?_; intro a w5 S M
 refine Ju (sz := 13) (us := [_, _, _, _, _, _, _, _, _, _, _, _, _]) S M 1 rfl k_ rfl rfl rfl rfl rfl rfl (by rw [St.len JH]; simp_all) ?_; intro w6 M
 simp only [Jt, List.set_cons_zero, List.set_cons_succ, Nat.reduceAdd] at M
 refine gp [[5,1],[3]] ?_; intro a S
 refine Jc (fun m a w' => ∃ (i : Nat) (cs : List Value), i ≤ 8 ∧ m = 8 - i ∧ cs.length = 273 ∧ Jp cs = true ∧ Jk 98 a [(0, p_ b), (2, p_ bR), (4, p_ bST), (5, p_ bSU), (7, .int .i64 (i : Int))] ∧ Mem wo w' (.blk bSU x.cellsL.toArray 71 :: .blk bST cs.toArray 99 :: .blk bR (zSt.cellsL (.slice none 0 0)).toArray 99 :: (A ++ E))) (8) ?_ ?_
 ·skip
  refine ⟨0, _, by omega, rfl, ?_, ?_, S.sub _ rfl, M⟩
  ·grind [List.length_set, St.len, JH]
  ·iterate 13 (refine Zn _ _ _ ?_ rfl)
   exact St.one JH _ rfl
 intro m a wl
 rintro ⟨i, cs, hi, rfl, hcl, hco, S, M⟩
 refine gq [[3,1,1],[2],[940,29]] ?_ ?_
 ·intro a h29 S
  refine gp [[7,1,1]] ?_; intro a S
  refine qD S rfl (Jey (A := _ :: _ :: _ :: A) i hE M hc o_ (hz i o_)) ?_
  rintro _ w7 ⟨b2, rfl, M1⟩; refine rv_ ?_; intro a S; have M := M1; clear M1
  simp only [List.cons_append] at M
  refine gp [[0,1,1,1,1,1],[5,1,1],[2],[941,39],[5,1],[3]] ?_; intro a S
  refine Jc (fun m a w' => ∃ (j : Nat) (cs : List Value), j ≤ 4 ∧ m = 4 - j ∧ cs.length = 273 ∧ Jp cs = true ∧ Jk 98 a [(0, p_ b), (2, p_ bR), (4, p_ bST), (5, p_ bSU), (7, .int .i64 (i : Int)), (8, .slice (some ⟨b2, 0, none⟩) 4 4), (10, .int .i64 (j : Int))] ∧ Mem wo w' (.blk b2 z4C.toArray 39 :: .blk bSU x.cellsL.toArray 71 :: .blk bST cs.toArray 99 :: .blk bR (zSt.cellsL (.slice none 0 0)).toArray 99 :: (A ++ E))) (4) ?_ ?_
  ·skip
   exact ⟨0, cs, by omega, rfl, hcl, hco, S.sub _ rfl, M⟩
  intro m a wl
  clear hcl hco
  rintro ⟨j, cs, hj, rfl, hcl, hco, S, M⟩
  refine gq [[3,1,1],[2],[943,43]] ?_ ?_
  ·intro a h43 S
   refine gp [[8,1],[901],[0,1],[2]] ?_; intro a S
   replace M := M.drp 0
   exact ⟨8 - (i + 1), by omega, i + 1, cs, by omega, rfl, hcl, hco, S.sub _ rfl, M⟩
  intro a h43 S
  refine gp [[6,1],[901],[0,1],[901],[0,1,1]] ?_; intro a S
  refine qY S (yx (e := 39) (sz := 8) S k_ rfl rfl o_) ?_; intro a S
  replace S := S.n_
  refine qY S (Ja S k_ rfl rfl (M.cellsAt (k := 8) 0 rfl (Jin o_))) ?_
  refine gp [[0,16]] ?_; intro a S
  rw [show (i : Int) * 4 + (j : Int) = ((i * 4 + j : Nat) : Int) by omega] at S
  refine gp [[906,32,8]] ?_; intro a S
  refine Ju (sz := 8) (us := [_, _, _, _, _, _, _, _]) S M 2 rfl k_ rfl rfl rfl rfl rfl rfl (by rw [hcl]; show 15 + (i * 4 + j) * 8 + 8 ≤ 273; omega) ?_; intro w8 M
  replace M := M.s_
  refine gp [[4,1],[901],[0,1],[2]] ?_; intro a S
  exact ⟨4 - (j + 1), by omega, j + 1, _, by omega, rfl, by grind [Vu], KV _ _ _ hco rfl, S.sub _ rfl, M⟩
 intro a h29 S
 refine gp [[8,1,2,1]] ?_; intro a S
 refine qD S rfl (Jbu (A := _ :: _ :: _ :: A) x.tail hE M hc ht hs) ?_
 rintro _ w9 ⟨rfl, M1⟩; refine rv_ ?_; intro a S; have M := M1; clear M1
 simp only [List.cons_append] at M
 refine gp [[0,1,1,1,1]] ?_; intro a S
 refine qN S M Zy ?_; intro a w10 bL S M hB
 refine go [[0,1],[900,0],[0,1],[5,1,1],[2],[941,65],[6,1],[3]] ?_; intro a w11 S M
 refine Jc (fun q a w' => q = 0 ∧ Jk 98 a [(2, p_ bR), (4, p_ bST), (11, .slice none 0 0), (12, p_ bL), (13, .int .i64 0)] ∧ Mem wo w' (.blk bL #[.int .i64 x.tail, .int .i64 x.tail] 97 :: .blk bSU x.cellsL.toArray 71 :: .blk bST cs.toArray 99 :: .blk bR (zSt.cellsL (.slice none 0 0)).toArray 99 :: (A ++ E))) (0) ?_ ?_
 ·skip
  exact ⟨rfl, S.sub _ rfl, M⟩
 intro m a wl
 rintro ⟨rfl, S, M⟩
 refine gp [[3,1,1],[903,77],[0,1],[2],[941,71],[8],[902,0,2],[0,14]] ?_; intro a S
 refine Ju (sz := 2) (us := [_, _]) S M 2 rfl k_ rfl rfl rfl rfl rfl rfl (by rw [hcl]; exact (by decide : 15 ≤ 273)) ?_; intro w12 M
 simp only [Jt, List.set_cons_zero, List.set_cons_succ, Nat.reduceAdd] at M
 refine nxA (qY S (Ja (k := 273) (cs := _) S k_ rfl (by with_reducible (rw [List.length_set, List.length_set]; exact hcl)) (M.cellsAt 2 rfl JC)) ?_); intro a S
 refine JN (sz := 273) S M 3 rfl k_ rfl rfl (by with_reducible (rw [List.length_set, List.length_set]; exact hcl)) (by with_reducible exact Zn _ _ _ (Zn _ _ _ hco rfl) rfl) rfl (by with_reducible exact St.len JH _) ?_; intro w13 M
 replace M := M.s_
 refine gp [[0,1],[3]] ?_; intro a S
 refine Jr S rfl (Y8 (k := 273) (cs := _) k_ rfl (by with_reducible (rw [List.length_set, List.length_set]; exact hcl)) (M.cellsAt 3 rfl JC)) rT_ ?_
 exact ⟨_, by rw [List.length_set, List.length_set]; exact hcl, Zn _ _ _ (Zn _ _ _ hco rfl) rfl, rfl, (((M.drop 0).drop 0).drop 0).drop 0⟩
set_option maxHeartbeats 1000000 in
set_option maxRecDepth 10000 in
theorem JdY {wc w : World} {A E : List Ent} {b : Nat} {S0 : DS} (x : Su) (hE : DkE b S0 E) (M : Mem wc w (A ++ E)) (hup : S0.down = false) (hw : ∀ k, (S0.cache k).length ≤ 1000000) (hz : ∀ k, k < 8 → JB (S0.get (26 + k)) = true) (hg : gsR (Y7 S0) = (x, 0)) (hs : Zj S0 x.tail 0 = zer64) :
 CT 48 #[p_ b] w fun e w' => e = .returned (.tuple #[.agg ((jZ x x.tail x.tail).cellsL (.slice none 0 0)).toArray, .int .i64 0]) ∧ Mem wc w' (A ++ E) := by
 refine qI Tryz.func48 92 ?_; intro a S
 refine nxD (qN S M (zSt.cellsL (.slice none 0 0)).toArray ?_); intro a w1 bZ S M hB
 refine gp [[0,1],[5,1]] ?_; intro a S
 refine qY S (J9 k_ S rfl) ?_
 refine gp [[7,1]] ?_; intro a S
 refine qD S rfl (Jga (A := _ :: A) hE M hup hw) ?_
 rintro _ w2 ⟨rfl, M1⟩; refine rv_ ?_; intro a S; have M := M1; clear M1
 simp only [List.cons_append] at M
 rw [hg] at S
 refine qG [1, 1, 1] S ?_; intro a S
 refine qN S M cz2 ?_; intro a w3 bU S M hB
 refine go [[900,0],[0,1],[5,1,1],[2],[941,25],[5],[902,0,13]] ?_; intro a w4 S M
 refine qY S (JW (ps := [(0, .tmp 28)]) (pl := Jgn) (z := zSt.cellsL (.slice none 0 0)) (cs := (jZ x 0 0).cellsL (.slice none 0 0)) S k_ rfl ((vT (us := x.cellsL) (off := 0) (sz := 13) rfl rfl rfl (by grind [St.len, JH])).trans (by rw [Jdl]))) ?_; intro a S
 refine qN S M (zSt.cellsL (.slice none 0 0)).toArray ?_; intro a w5 bX S M hB
 refine JN (sz := 273) S M 0 rfl k_ rfl rfl (by grind [St.len, jK]) (by with_reducible first | exact St.one JH _ rfl | exact St.one (jK _ _ _) _ rfl) rfl (by grind [St.len, JH]) ?_; intro w6 M
 replace M := M.s_
 refine gp [[5,1],[3]] ?_; intro a S
 refine Jc (fun m a w' => ∃ (k : Nat), k ≤ 8 ∧ m = 8 - k ∧ Jk 92 a [(0, p_ b), (2, p_ bZ), (4, p_ bU), (6, p_ bX), (30, .int .i64 (k : Int))] ∧ Mem wc w' (.blk bX ((jZ x 0 0).cellsL (.slice none 0 0)).toArray 99 :: .blk bU x.cellsL.toArray 71 :: .blk bZ (zSt.cellsL (.slice none 0 0)).toArray 99 :: (A ++ E))) (8) ?_ ?_
 ·skip
  exact ⟨0, by omega, rfl, S.sub _ rfl, M⟩
 intro m a wl
 rintro ⟨k, hk, rfl, S, M⟩
 refine gq [[2,1],[3],[940,31]] ?_ ?_
 ·intro a h31 S
  refine gp [[7,1,1],[4,1,1]] ?_; intro a S
  refine qD S rfl (Jf5 (A := _ :: _ :: _ :: A) k hE M hup hw o_ (hz k o_)) ?_
  rintro _ w7 ⟨bN, rfl, M1⟩; refine rv_ ?_; intro a S; have M := M1; clear M1
  simp only [List.cons_append] at M
  refine gp [[0,1,1,1,1,1],[5,1,1],[2],[941,40],[4,16,1],[901],[0,1],[901],[901]] ?_; intro a S
  refine qY S (WF (m := 32) (sz := 8) S k_ rfl rfl rfl o_) ?_
  refine gp [[0,1]] ?_; intro a S
  refine Zi (e := 39) (sz := 8) (us := zVs) S M 1 rfl rfl k_ rfl rfl rfl (M.cellsAt (k := 32) 0 rfl rfl) (by rw [show zVs.length = 32 from rfl]; grind) k_ (by rw [St.len (jK _ _ _), show zVs.length = 32 from rfl]; grind) ?_
  intro a wy S M
  rw [show 0 + 15 + ((k : Int) * 4).toNat * 8 = 15 + k * 32 by omega] at M
  replace M := M.s_
  replace S := S.keep [0, 2, 4, 6, 30, 31, 7, 8, 9, 40]
  refine gp [[4],[901],[0,1],[2]] ?_; intro a S
  replace M := M.drp 0
  refine ⟨8 - (k + 1), by omega, k + 1, by omega, rfl, S.sub _ rfl, ?_⟩
  grind [Jdk]
 intro a h31 S
 refine gp [[8,1,2,2]] ?_; intro a S
 refine qD S rfl (Je0 (A := _ :: _ :: _ :: A) x.tail hE M hup hw (Jf0 hg) hs) ?_
 rintro _ w8 ⟨rfl, M1⟩; refine rv_ ?_; intro a S; have M := M1; clear M1
 simp only [List.cons_append] at M
 refine gp [[0,1,1,1,1]] ?_; intro a S
 refine qN S M Zy ?_; intro a w9 bL S M hB
 refine go [[0,1],[900,0],[0,1],[5,1,1],[2],[941,62],[5],[902,0,2],[0,14]] ?_; intro a w10 S M
 refine Ju (sz := 2) (us := [_, _]) S M 1 rfl k_ rfl rfl rfl rfl rfl rfl (by grind [St.len, jK]) ?_; intro w11 M
 simp only [Jt, List.set_cons_zero, List.set_cons_succ, Nat.reduceAdd] at M
 refine gp [[4]] ?_; intro a S
 rw [Jfq] at M
 replace M := (M.drp 0).drp 1
 refine gp [[1,1],[903,77],[0,1],[3]] ?_; intro a S
 refine Jc (fun m a w' => Jk 92 a [(2, p_ bZ), (6, p_ bX), (67, .slice none 0 0), (68, .int .i64 0), (69, .int .i64 0)] ∧ Mem wc w' (.blk bX ((jZ x x.tail x.tail).cellsL (.slice none 0 0)).toArray 99 :: .blk bZ (zSt.cellsL (.slice none 0 0)).toArray 99 :: (A ++ E))) (0) ?_ ?_
 ·skip
  exact ⟨S.sub _ rfl, M⟩
 intro m a wl
 rintro ⟨S, M⟩
 refine gp [[2,1],[3],[941,70],[8]] ?_; intro a S
 refine qY S (Ja (k := 273) (cs := _) S k_ rfl (by grind [St.len, jK]) (M.cellsAt 0 rfl JC)) ?_; intro a S
 refine JN (sz := 273) S M 1 rfl k_ rfl rfl (by grind [St.len, jK]) (by with_reducible first | exact St.one JH _ rfl | exact St.one (jK _ _ _) _ rfl) rfl (by grind [St.len, JH]) ?_; intro w12 M
 replace M := M.s_
 refine gp [[0,1],[3]] ?_; intro a S
 refine Jr S rfl (Y8 (k := 273) (cs := _) k_ rfl (by grind [St.len, jK]) (M.cellsAt 1 rfl JC)) rT_ ?_
 skip
 replace M := (M.drp 1).drp 0
 grind
set_option maxHeartbeats 1000000 in
set_option maxRecDepth 10000 in
theorem ER {wc w : World} {A E : List Ent} {bd : Nat} {S0 : DS} (x : Su) (hE : DkE bd S0 E) (M : Mem wc w (A ++ E)) (hup : S0.down = false) (hw : ∀ k, (S0.cache k).length ≤ 1000000) (hz : ∀ k, k < 8 → JB (S0.get (26 + k)) = true) (hg : gsR (Y7 S0) = (x, 0)) (hs : Zj S0 x.tail 0 = zer64) :
 CT 23 #[pB bd] w fun e w' => ∃ b, e = .returned (.tuple #[pB b, .int .i64 0]) ∧ ShM wc w' A b bd (shF x x.tail) S0 := by
 have hok : (shF x x.tail).st.ok := J4 _ _ _ _ rfl
 refine qI Tryz.func23 20 ?_
 refine gp [[2,1,1],[5,1]] ?_; intro a S
 refine qY S (J9 k_ S rfl) ?_
 refine gp [[7,1]] ?_; intro a S
 refine qD S rfl (JdY x hE M hup hw hz hg hs) ?_
 rintro _ w1 ⟨rfl, M1⟩; refine rv_ ?_; intro a S; have M := M1; clear M1
 replace S : SeesD [] _ a ((_, .tuple #[.agg ((shF x x.tail).st.cellsL (.slice none 0 0)).toArray, .int .i64 0]) :: _) := S
 refine qG [1, 1, 1] S ?_; intro a S
 refine qN S M (zSt.cellsL (.slice none 0 0)).toArray ?_; intro a w2 bW S M hB
 refine JN (sz := 273) S M 0 rfl k_ rfl rfl (by grind [St.len]) (by with_reducible exact St.one hok _ rfl) rfl (by grind [Je5]) ?_; intro w3 M
 replace M := M.s_
 refine gp [[0,1],[5,1,1],[2],[941,14],[5,1]] ?_; intro a S
 refine qY S (Ja (k := 273) (cs := _) S k_ rfl (by grind [St.len]) (M.cellsAt 0 rfl JC)) ?_; intro a S
 refine qY S (JW (ps := [(0, .tmp 16), (1, .tmp 17)]) (pl := [(0, 1), (1, 273)]) (z := KX) (cs := shC bd (shF x x.tail) (.slice none ([] : Pl).length 0)) S k_ rfl (Jh9 bd (shF x x.tail) _ rfl)) ?_; intro a S
 refine VA S M rfl rfl rfl _ rfl ?_; intro a w4 bX S M hB
 refine gp [[0,1,1],[3],[931]] ?_
 replace M := M.drp 1
 obtain ⟨lo, hi, M1⟩ := M.nilRow 57 6
 exact ⟨bX, rfl, none, 0, lo, hi, [], [], E, hE, PrBk.nil', M1.perm (List.Perm.swap _ _ _)⟩
def knL (n i : Int) : List Value := [.int .i64 n, .int .i64 i, .int .i64 0, .int .i64 0, .int .i64 0, .int .i64 0, .int .i64 0]
theorem D8 {wc w : World} {A : List Ent} {b bd : Nat} {s : Sh} {S0 : DS} (hM : ShM wc w A b bd s S0) (hl : s.h.length = 32) (hps : s.ps = []) :
 CT 6 #[pB b] w fun e w' => e = .returned (.tuple #[.agg #[.slice none 0 0, .slice none 0 0, .slice none 0 0, .slice none 0 0], .int .i64 0]) ∧ ShM wc w' A b bd s S0 := by
 obtain ⟨da, dc, lo, hi9, cs, es, E, hE, hBk, M⟩ := hM
 have hp24 : s.ps.length ≤ 24 := by grind
 refine qI Tryz.func6 49 ?_
 refine gp [[2]] ?_; intro a S
 refine qN S M zx ?_; intro a w1 bR S M hB
 refine gp [[0,1],[5,1]] ?_; intro a S
 refine qY S (J9 k_ S rfl) ?_
 refine gp [[7]] ?_; intro a S
 refine qN S M zx ?_; intro a w2 bP S M hB
 refine gp [[5,1]] ?_; intro a S
 replace M := M.frn 2
 refine qD S rfl (KU M (fun W pre h => (hBk.prs h (List.mem_append_right _ (.tail _ (.tail _ (.tail _ (.head _))))) (fun e he => List.mem_append_right _ (.tail _ (.tail _ (.tail _ (.tail _ (List.mem_append_left _ he)))))) (by grind)).wide (Nat.zero_le _) (Nat.le_refl _)) hBk hl hp24) ?_
 rintro _ w3 ⟨ra, rc, lo2, hi2, cs2, es2, rfl, hB2, M2⟩; refine rv_ ?_; intro a S
 replace M := M2.sub (.cons _ (List.sublist_append_right _ _))
 clear M2 hB2
 refine gp [[903,57],[0,1],[3]] ?_; intro a S
 refine Jc (fun q a w' => q = 0 ∧ Jk 49 a [(2, pB bR), (4, pB bP), (14, .slice ra s.ps.length rc), (15, .int .i64 (s.ps.length : Int)), (16, .int .i64 0)] ∧ Mem wc w' (shE b bd s (.slice da s.ps.length dc) :: .blk bP zx 34 :: .blk bR zx 34 :: Jd lo hi9 57 6 (.slice da s.ps.length dc) s.ps.length cs :: (es ++ (A ++ E)))) (0) ?_ ?_
 ·skip
  exact ⟨rfl, S.sub _ rfl, M⟩
 intro m a wl
 rintro ⟨rfl, S, M⟩
 refine gq [[2,1],[3],[940,17]] ?_ ?_
 ·intro a h17 S
  exfalso; grind
 intro a h17 S
 refine go [[8],[902,1,4],[900,2],[0,1],[3]] ?_; intro a w4 S M
 refine Jr S rfl (rA_ 4 2 M) rT_ ?_
 exact ⟨rfl, da, dc, lo, hi9, cs, es, E, hE, hBk, M.sub (.cons_cons _ (.cons _ (.cons _ (List.Sublist.refl _))))⟩
abbrev Jky (self : Int) (up : Bool) (bd : Nat) (st : Value) (k i : Int) : List Value := [.int .i64 self, .bool up, pB bd, st, .slice none 0 0, .slice none 0 0, .slice none 0 0, .slice none 0 0, .int .i64 k, .int .i64 i, .int .i64 0, .int .i64 0, .int .i64 0, .int .i64 0, .int .i64 0]
def shN (o : Int) : Sh := (JjI o).begun (suO o)
end Go.Proofs.YtocppoflhllelaaGreat
