/-
  What PartStrict rests on, part 23.
-/
import Derived.Test.YtocppoflhllelaaGreatP18
import Derived.Test.YtocppoflhllelaaGreatP20
import Derived.Test.YtocppoflhllelaaGreatP21
namespace Go.Proofs.YtocppoflhllelaaGreat
open Go.RowKit Go.Sort
section
variable {bs : List UInt8} {k n i : Nat} {sec : Nat → List UInt8} {y : Su}
noncomputable def rdR (bs : List UInt8) (k : Nat) : Su × Bool := match ZO bs k with
 | some x => (x, true)
 | none => (zSu, false)
theorem Jfy (h : YD bs 27 = false) : rdR bs k = (zSu, false) := by
 grind [rdR, ZO]
theorem JdE (h : ¬ ((Zv (bs.take 27)).may ∧ (Zv (bs.take 27)).gen % 2 = (k : Int))) : rdR bs k = (zSu, false) := by
 grind [rdR, ZO]
theorem JhG (h : YD bs 27 = true) (h1 : (Zv (bs.take 27)).may) (h2 : (Zv (bs.take 27)).gen % 2 = (k : Int)) : rdR bs k = (Zv (bs.take 27), true) := by
 grind [rdR, ZO]
def JkR (b : List UInt8) (j : Nat) : Su := ⟨if 0 < j then JZ b 0 6 else 0, if 1 < j then JZ b 6 6 else 0, if 2 < j then JZ b 12 1 else 0, if 3 < j then JZ b 13 3 else 0, if 4 < j then JZ b 16 3 else 0, 0, 0, 0, 0, 0, 0, 0, 0⟩
noncomputable def Qc (bs : List UInt8) (n : Nat) : List UInt8 := if YD bs n = true then bs.take n else []
theorem JhL {wo w w' : World} {H : List Ent} {e : Ending} (M : Mem wo w H) (hn : n ≤ bs.length) (hP : OpnP bs n w e w') :
 ∃ v' lo hi, e = .returned (.tuple #[v', .bool (YD bs n)]) ∧ Below w.heap.size w w' ∧ Mem wo w' (Jd lo hi 5 1 v' (Qc bs n).length (Jh (Qc bs n)) :: H) := by
 obtain ⟨v', rfl, hK, hF, hN⟩ := hP
 cases h : YD bs n with
 | true =>
   obtain ⟨lo, hi, -, M1⟩ := M.pushFresh (hF h)
   grind [Qc]
 | false =>
   obtain rfl := hN h
   obtain ⟨lo, hi, M1⟩ := (M.grow hK).nilRow 5 1
   refine ⟨_, lo, hi, rfl, hK, ?_⟩
   unfold Qc
   rw [if_neg (by grind)]
   exact M1
theorem JfK (h : YD bs n = true) : Qc bs n = bs.take n := if_pos h
set_option maxHeartbeats 1000000 in
theorem JdC (v : Value) (bs : List UInt8) (k : Nat) (w : World) (hv : Bs 0 w.heap.size w v bs) (hb : bs.length = 64) :
 CQ 147 #[v, .int .i64 (k : Int)] w (.tuple #[.agg (rdR bs k).1.cellsL.toArray, .bool (rdR bs k).2]) := by
 have M := Mem.start w
 have hl27 : (bs.take 27).length = 27 := by grind
 refine qI Tryz.func147 57 ?_; intro a S
 refine nxD (qN S M cz2 ?_); intro a w1 bZ S M hB
 refine gp [[0,1],[4,1]] ?_; intro a S
 refine qD S rfl (JdZ v bs 27 _ (M.argW hv) o_ o_) ?_
 rintro _ w2 hP; obtain ⟨v2, lo, hi, rfl, hK, M1⟩ := JhL M o_ hP; refine rv_ ?_; intro a S; clear M hP; have M := M1; clear M1
 have hol : (Qc bs 27).length ≤ 64 := by grind [Qc]
 obtain ⟨va, vc, rfl, -, -⟩ := (M.readAll 0 rfl (by grind [maxLen])).form
 refine qG [1, 1, 1] S ?_; intro a S
 refine qN S M #[.slice none 0 0] ?_; intro a w3 bV S M hB
 refine gi [[900,0],[0,1],[5,1,1],[2],[940,18]] ?_ ?_
 ·intro a w4 h18 S M
  refine cT S (nxD (qB_ zw cz5 S ?_)); intro a S
  refine go [[900,2],[0,1],[4]] ?_; intro a w5 S M
  refine Jr S rfl (rA_ 13 2 M) rT_ ?_
  refine ⟨?_, M.below⟩
  rw [Jfy (by simp_all)]; rfl
 intro a w4 h18 S M
 refine gp [[4]] ?_; intro a S
 have hop : YD bs 27 = true := by simp_all
 rw [JfK hop] at M
 clear hol
 obtain ⟨b9, hb9⟩ : ∃ b9, bs.take 27 = b9 := ⟨_, rfl⟩
 rw [hb9] at M hl27
 obtain ⟨v2, hv2⟩ : ∃ v2, Value.slice va b9.length vc = v2 := ⟨_, rfl⟩
 rw [hv2] at M
 refine wp_region_lit (qN S M #[.int .i64 0] ?_); intro a w6 bA S M hB
 refine go [[900,0],[4]] ?_; intro a w7 S M
 refine qY S (Jx (fs := []) (cs := [.tmp 6, .tmp 8]) S rfl rfl) ?_
 refine gp [[0,1],[4]] ?_; intro a S
 refine qN S M cz2 ?_; intro a w8 bX S M hB
 refine nxC (wp_seq ?_)
 obtain ⟨rest, hrest⟩ : ∃ rest, rest = [Ent.blk bZ zSu.cellsL.toArray 71] := ⟨_, rfl⟩
 have hbs : ∀ b c, RdH w (.blk bX b 71 :: Jd lo hi 5 1 v2 b9.length (Jh b9) :: c) v2 b9 := fun b c W M => M.readAll 1 rfl (by grind [maxLen])
 replace M := M.od [2, 2]
 refine gp [[1,1]] ?_; intro a S
 refine JR (xs := [.const (.int .i64 6)]) (fi := []) (ca := [_, _]) S (Ji Tryz.func227 d_ rfl) rfl rfl (rfl) rfl (jI 0 6 M (hbs _ _) o_ o_ o_) ?_
 rintro _ w9 ⟨rfl, M1⟩; have M := M1; clear M1
 refine go [[0,1],[900,2],[4,1]] ?_; intro a w10 S M
 refine JR (xs := [.const (.int .i64 6)]) (fi := []) (ca := [_, _]) S (Ji Tryz.func227 d_ rfl) rfl rfl (rfl) rfl (jI 6 6 M (hbs _ _) o_ o_ o_) ?_
 rintro _ w11 ⟨rfl, M1⟩; have M := M1; clear M1
 refine go [[0,2],[900,2],[4,1]] ?_; intro a w12 S M
 refine JR (xs := [.const (.int .i64 1)]) (fi := []) (ca := [_, _]) S (Ji Tryz.func227 d_ rfl) rfl rfl (rfl) rfl (jI 12 1 M (hbs _ _) o_ o_ o_) ?_
 rintro _ w13 ⟨rfl, M1⟩; have M := M1; clear M1
 refine go [[0,3],[900,2],[4,1]] ?_; intro a w14 S M
 refine JR (xs := [.const (.int .i64 3)]) (fi := []) (ca := [_, _]) S (Ji Tryz.func227 d_ rfl) rfl rfl (rfl) rfl (jI 13 3 M (hbs _ _) o_ o_ o_) ?_
 rintro _ w15 ⟨rfl, M1⟩; have M := M1; clear M1
 refine go [[0,4],[900,2],[4,1]] ?_; intro a w16 S M
 refine JR (xs := [.const (.int .i64 3)]) (fi := []) (ca := [_, _]) S (Ji Tryz.func227 d_ rfl) rfl rfl (rfl) rfl (jI 16 3 M (hbs _ _) o_ o_ o_) ?_
 rintro _ w17 ⟨rfl, M1⟩; have M := M1; clear M1
 refine go [[0,5],[900,2],[5,1],[3]] ?_; intro a w18 S M
 refine Jc (fun m a w' => ∃ i : Nat, i ≤ 8 ∧ m = 8 - i ∧ Jk 57 a [(1, .int .i64 (k : Int)), (4, p_ bZ), (9, .func (.func 227) #[] #[p_ bV, p_ bA]), (10, p_ bX), (36, .int .i64 (i : Int))] ∧ Mem w w' [.blk bA #[.int .i64 ((19 + i : Nat) : Int)] 3, .blk bV #[v2] 77, .blk bX (QI b9 i).cellsL.toArray 71, Jd lo hi 5 1 v2 b9.length (Jh b9), .blk bZ zSu.cellsL.toArray 71]) (8) ?_ ?_
 ·skip
  exact ⟨0, by omega, rfl, S.sub _ rfl, M⟩
 intro m a wl
 rintro ⟨i, hi8, rfl, S, M⟩
 refine gq [[2,1],[3],[940,37]] ?_ ?_
 ·intro a h37 S
  refine gp [[7,1,1],[3,1,1]] ?_; intro a S
  refine JR (xs := [.const (.int .i64 1)]) (fi := []) (ca := [_, _]) S (Ji Tryz.func227 d_ rfl) rfl rfl (rfl) rfl (jI (19 + i) 1 M (hbs _ _) o_ o_ o_) ?_
  rintro _ w19 ⟨rfl, M1⟩; have M := M1; clear M1
  refine gp [[0,6],[906,8,1]] ?_; intro a S
  refine Ju (sz := 1) (us := [_]) S M 2 rfl k_ rfl rfl rfl rfl rfl rfl (by (simp; omega)) ?_; intro w20 M
  replace M := M.s_
  refine gp [[4],[901],[0,1],[2]] ?_; intro a S
  refine ⟨8 - (i + 1), by omega, i + 1, by omega, rfl, S.sub _ rfl, ?_⟩
  grind [Su.mSet_cell, QH]
 intro a h37 S
 refine gp [[8]] ?_; intro a S
 obtain rfl : i = 8 := by omega
 obtain ⟨s8, hs8⟩ : ∃ s, s = Zv b9 := ⟨_, rfl⟩
 have hnn : 0 ≤ s8.gen := by rw [hs8]; exact JaG _
 rw [WM, ← hs8] at M
 refine gp [[1],[902,2,13]] ?_; intro a S
 refine qK S rfl (Ea s8 _) M ?_; intro a w21 S hK M
 refine gq [[0,1,1],[940,48]] ?_ ?_
 ·intro a h48 S
  refine gp [[0,0,0,0,0,0,1],[5]] ?_; intro a S
  refine qB_ zw cz5 S ?_
  refine go [[900,4],[0,1],[4]] ?_; intro a w22 S M
  refine Jr S rfl (rA_ 13 4 M) rT_ ?_
  refine ⟨?_, M.below⟩
  rw [JdE (by grind)]; rfl
 intro a h48 S
 refine gp [[0,1,3]] ?_; intro a S
 (refine qY S (yw S rfl rfl o_) ?_); intro a S
 refine gq [[0,1,1,1],[2],[943,54]] ?_ ?_
 ·intro a h54 S
  refine go [[5],[902,2,13],[900,4],[0,1],[3]] ?_; intro a w24 S M
  refine Jr S rfl (rA_ 13 4 M) rT_ ?_
  refine ⟨?_, M.below⟩
  grind [JhG]
 intro a h54 S
 refine cT S (nxD (qB_ zw cz5 S ?_)); intro a S
 refine go [[900,4],[0,1],[4]] ?_; intro a w23 S M
 refine Jr S rfl (rA_ 13 4 M) rT_ ?_
 refine ⟨?_, M.below⟩
 rw [JdE (by grind)]; rfl
/-! ### the superblock of a disk -/
theorem UV {x : Su} {ok fd : Bool} (hx : rdR (sec i) i = (x, ok)) (hok : ok = true) (hf : fd = (J7 sec i).isSome) (hy : y = (J7 sec i).getD zSu) (h : fd = false ∨ y.gen < x.gen) : J7 sec (i + 1) = some x := by
 grind [rdR, J7]
theorem UW {x : Su} {ok fd : Bool} (hx : rdR (sec i) i = (x, ok)) (hf : fd = (J7 sec i).isSome) (hy : y = (J7 sec i).getD zSu) (h : ok = false ∨ (fd = true ∧ ¬ y.gen < x.gen)) : J7 sec (i + 1) = J7 sec i := by
 grind [rdR, J7]
theorem Jcw (h : JB (sec i) = true) (hl : (sec i).length = 64) : J7 sec (i + 1) = J7 sec i := by
 rw [J7, GP h hl]
def jf (sec : Nat → List UInt8) : Nat → Nat
 | 0 => 0
 | n + 1 => jf sec n + if JB (sec n) = true then 1 else 0
theorem Ja2 (sec : Nat → List UInt8) : ∀ n, jf sec n ≤ n
 | 0 => Nat.le_refl _
 | n + 1 => by have := Ja2 sec n; grind [jf]
theorem Jgj (h : JB (sec n) = true) : jf sec (n + 1) = jf sec n + 1 := by grind [jf]
theorem KF (h : JB (sec n) = false) : jf sec (n + 1) = jf sec n := by grind [jf]
theorem JiV (h : (J7 sec 2).isSome = true) (hy : y = (J7 sec 2).getD zSu) : gsR sec = (y, 0) := by
 grind [gsR]
theorem Jel (h : (J7 sec 2).isSome = false) (he : jf sec 2 = 2) : gsR sec = (Y6, 0) := by
 grind [gsR, jf]
theorem JhZ (h : (J7 sec 2).isSome = false) (he : jf sec 2 ≠ 2) : gsR sec = (zSu, 40) := by
 grind [gsR, jf]
def Y7 (S0 : DS) (i : Nat) : List UInt8 := S0.get i
theorem Jga {wc w : World} {A E : List Ent} {b : Nat} {S0 : DS} (hE : DkE b S0 E) (M : Mem wc w (A ++ E)) (hup : S0.down = false) (hw : ∀ k, (S0.cache k).length ≤ 1000000) :
 CT 86 #[p_ b] w fun e w' => e = .returned (.tuple #[.agg (gsR (Y7 S0)).1.cellsL.toArray, .int .i64 (gsR (Y7 S0)).2]) ∧ Mem wc w' (A ++ E) := by
 refine qI Tryz.func86 58 ?_; intro a S
 refine nxD (qN S M cz2 ?_); intro a w1 bZ S M hB
 refine gp [[0,1],[5,1]] ?_; intro a S
 refine qY S (J9 k_ S rfl) ?_
 refine gp [[7,1],[4]] ?_; intro a S
 refine qN S M cz2 ?_; intro a w2 bB S M hB
 refine gp [[4,1,1],[5,1],[3]] ?_; intro a S
 refine Jc (fun m a w' => ∃ (i : Nat) (y : Su) (fd : Bool), i ≤ 2 ∧ m = 2 - i ∧ fd = (J7 (Y7 S0) i).isSome ∧ y = (J7 (Y7 S0) i).getD zSu ∧ Jk 58 a [(0, p_ b), (2, p_ bZ), (4, .func (.func 144) #[] #[]), (5, p_ bB), (6, .bool fd), (7, .int .i64 (jf (Y7 S0) i : Nat)), (16, .int .i64 (i : Int))] ∧ Mem wc w' (.blk bB y.cellsL.toArray 71 :: .blk bZ zSu.cellsL.toArray 71 :: (A ++ E))) (2) ?_ ?_
 ·skip
  exact ⟨0, zSu, false, by omega, rfl, rfl, rfl, S.sub _ rfl, M⟩
 intro m a wl
 rintro ⟨i, y, fd, hi, rfl, hfd, hy, S, M⟩
 have hem := Ja2 (Y7 S0) i
 refine gq [[2,1],[3],[943,17]] ?_ ?_
 ·intro a h17 S
  refine gq [[9,1],[2],[940,52]] ?_ ?_
  ·intro a h52 S
   refine go [[3],[902,0,13],[900,1],[0,1],[4]] ?_; intro a w11 S M
   refine Jr S rfl (rA_ 13 1 M) rT_ ?_
   obtain rfl : i = 2 := by omega
   refine ⟨?_, M.sub (.cons _ (.cons _ (List.Sublist.refl _)))⟩
   (rw [JiV (sec := Y7 S0) (by grind) hy]; first | done | rfl)
  intro a h52 S
  refine gq [[6,1,1],[2],[940,55]] ?_ ?_
  ·intro a h55 S
   refine cT S (nxD (qK S rfl (Jb4 _) M ?_)); intro a w12 S hK M
   refine go [[900,1],[0,1],[4]] ?_; intro a w13 S M
   refine Jr S rfl (rA_ 13 1 M) rT_ ?_
   obtain rfl : i = 2 := by omega
   refine ⟨?_, M.sub (.cons _ (.cons _ (List.Sublist.refl _)))⟩
   grind [Jel]
  intro a h55 S
  refine cF S (wp_skip (nxE (qB_ zw cz5 S ?_))); intro a S
  refine go [[900,1],[0,1],[3]] ?_; intro a w14 S M
  refine Jr S rfl (rA_ 13 1 M) rT_ ?_
  obtain rfl : i = 2 := by omega
  refine ⟨?_, M.sub (.cons _ (.cons _ (List.Sublist.refl _)))⟩
  (rw [JhZ (sec := Y7 S0) (by grind) o_]; first | done | rfl)
 intro a h17 S
 refine gp [[7,1,1],[4,1,1]] ?_; intro a S
 refine qD S rfl (Ke (A := _ :: _ :: A) (k := i) hE M hup o_ (hw _)) ?_
 rintro _ w3 ⟨v1, rfl, hF, hq64⟩; refine rv_ ?_; intro a S
 obtain ⟨lo, hi2, -, M1⟩ := M.pushFresh hF
 obtain ⟨q, hqb⟩ : ∃ q, S0.get i = q := ⟨_, rfl⟩
 have hqx : Y7 S0 i = q := hqb
 rw [hqb] at M1 hq64
 clear M hF
 have M := M1
 clear M1
 refine gp [[0,1,1,1,1,1],[5,1,1],[2],[941,26],[6,1]] ?_; intro a S
 refine qK S rfl (zL v1 q _ (M.readAll 0 rfl (by grind [maxLen]))) M ?_; intro a w4 S hK M
 refine nxC (qi 30 S ?_ ?_)
 ·intro h30 S
  refine gp [[3,1],[901],[0,1],[7],[901],[0,1],[2]] ?_; intro a S
  (have hz : JB (Y7 S0 i) = true := by rw [hqx]; assumption
   have hk := Jcw hz (by rw [hqx]; exact hq64)
   have e7 : ((jf (Y7 S0) (i + 1) : Nat) : Int) = (jf (Y7 S0) i : Int) + 1 := by rw [Jgj hz]; rfl
   exact ⟨2 - (i + 1), by omega, i + 1, y, fd, by omega, rfl, by rw [hk]; exact hfd, by rw [hk]; exact hy, by rw [e7]; exact S.sub _ rfl, M.sub (by first | exact .cons _ (List.Sublist.refl _) | exact (List.Sublist.refl _))⟩)
 intro h30 S
 refine gp [[5,1,1]] ?_; intro a S
 refine qK S rfl (JdC v1 q i _ (M.readAll 0 rfl m_) hq64) M ?_; intro a w5 S hK M
 obtain ⟨x, ok, hx⟩ : ∃ x ok, rdR q i = (x, ok) := ⟨_, _, rfl⟩
 rw [hx] at S
 rw [← hqx] at hx
 refine qG [1, 1, 1] S ?_; intro a S
 refine qN S M cz2 ?_; intro a w6 bX S M hB
 refine gi [[900,0],[0,1],[4,1,1],[943,40]] ?_ ?_
 ·intro a w7 h40 S M
  refine gp [[0,0,0,0,0,0,0,0,0,1],[7],[901],[0,1],[2]] ?_; intro a S
  (have hz : JB (Y7 S0 i) = false := by rw [hqx]; first | assumption | simp_all
   have e7 := KF hz
   have hk := UW hx hfd hy (by first | (left; simp_all; done) | (right; exact ⟨by simp_all, by omega⟩))
   exact ⟨2 - (i + 1), by omega, i + 1, y, fd, by omega, rfl, by rw [hk]; exact hfd, by rw [hk]; exact hy, by rw [e7]; exact S.sub _ rfl, (M.drop 0).drop 0⟩)
 intro a w7 h40 S M
 refine gq [[0,1,1,1],[940,43]] ?_ ?_
 ·intro a h43 S
  refine go [[0,0,0,0,0,1,1],[4],[902,0,13],[900,2],[0,1],[4],[901],[0,1],[2]] ?_; intro a w8 S M
  (have hz : JB (Y7 S0 i) = false := by rw [hqx]; first | assumption | simp_all
   have e7 := KF hz
   have hk := UV hx a_ hfd hy (by first | (left; assumption) | (left; simp_all; done) | (right; omega))
   exact ⟨2 - (i + 1), by omega, i + 1, x, true, by omega, rfl, by rw [hk]; rfl, by rw [hk]; rfl, by rw [e7]; exact S.sub _ rfl, (M.drop 0).drop 0⟩)
 intro a h43 S
 refine gp [[0,1],[902,0,13],[902,2,13]] ?_; intro a S
 refine DG (xs := [.tmp 45, .tmp 46]) S (Ji Tryz.func144 d_ rfl) rfl rfl rfl rfl (Jaj x y _) ?_
 rintro _ w9 ⟨rfl, hK⟩; replace M := M.grow hK
 refine gq [[0,1,1],[2],[943,49]] ?_ ?_
 ·intro a h49 S
  refine gp [[5],[901],[0,1],[2]] ?_; intro a S
  (have hz : JB (Y7 S0 i) = false := by rw [hqx]; first | assumption | simp_all
   have e7 := KF hz
   have hk := UW hx hfd hy (by first | (left; simp_all; done) | (right; exact ⟨by simp_all, by omega⟩))
   exact ⟨2 - (i + 1), by omega, i + 1, y, fd, by omega, rfl, by rw [hk]; exact hfd, by rw [hk]; exact hy, by rw [e7]; exact S.sub _ rfl, (M.drop 0).drop 0⟩)
 intro a h49 S
 refine go [[2],[902,0,13],[900,2],[0,1],[4],[901],[0,1],[2]] ?_; intro a w10 S M
 (have hz : JB (Y7 S0 i) = false := by rw [hqx]; first | assumption | simp_all
  have e7 := KF hz
  have hk := UV hx a_ hfd hy (by first | (left; assumption) | (left; simp_all; done) | (right; omega))
  exact ⟨2 - (i + 1), by omega, i + 1, x, true, by omega, rfl, by rw [hk]; rfl, by rw [hk]; rfl, by rw [e7]; exact S.sub _ rfl, (M.drop 0).drop 0⟩)
end
section
abbrev FrB := Fr × List UInt8
structure Sc where
 seq : Int
 inc : Int
 begun : List FrB
 l : List (Int × List UInt8)
 next : Int
def Jjx (s : Sc) (f : Fr) : Bool := f.seq == s.seq && !decide (f.inc < s.inc) && (match s.begun with
 | [] => f.part == 0
 | g :: _ => f.part == (s.begun.length : Int) && f.of == g.1.of && f.mark == g.1.mark && f.inc == g.1.inc)
open Classical in
noncomputable def Jjp (s : Sc) (x : FrB) : Sc × Bool :=
 if ((s.begun ++ [x]).length : Int) < x.1.of then (⟨s.seq + 1, x.1.inc, s.begun ++ [x], s.l, s.next⟩, true)
 else if Ua (s.begun ++ [x]) then (⟨s.seq + 1, x.1.inc, [], s.l ++ [((s.begun ++ [x]).head?.elim 0 (·.1.seq), D0 (s.begun ++ [x]))], s.seq + 1⟩, true)
 else (⟨s.seq + 1, x.1.inc, s.begun ++ [x], s.l, s.next⟩, false)
noncomputable def Jbh (s : Sc) (bs : List UInt8) : Sc × Bool := match yl bs with
 | none => (s, false)
 | some x => if Jjx s x.1 = true then Jjp s x else (s, false)
noncomputable def zW (s : Sc) : List (List UInt8) → Sc
 | [] => s
 | x :: t => if (Jbh s x).2 = true then zW (Jbh s x).1 t else (Jbh s x).1
/-! how it lies in memory -/
abbrev FrM := Fr × RB
abbrev FrM.pl (p : FrM) : FrB := (p.1, p.2.bs)
abbrev FrM.cellsL (p : FrM) : List Value := p.1.cells p.2.val
def frC (fs : List FrM) : List Value := fs.flatMap FrM.cellsL
abbrev FdM := Int × RB
abbrev FdM.pl (p : FdM) : Int × List UInt8 := (p.1, p.2.bs)
abbrev FdM.cellsL (p : FdM) : List Value := [.int .i64 p.1, p.2.val]
def fdC (ls : List FdM) : List Value := ls.flatMap FdM.cellsL
theorem UO : ∀ fs, (fdC fs).length = fs.length * 2
 | [] => rfl
 | x :: l => by
   show (x.cellsL ++ fdC l).length = _
   rw [List.length_append, UO l]; grind
theorem KE {l : List FdM} {i : Nat} {x : FdM} (hx : l[i]? = some x) : ((fdC l).drop (i * 2)).take 2 = x.cellsL := by
 obtain ⟨hlt, he⟩ := List.getElem?_eq_some_iff.1 hx
 have e : fdC l = fdC (l.take i) ++ (x.cellsL ++ fdC (l.drop (i + 1))) := by
  grind [List.take_append_drop, List.drop_eq_getElem_cons, fdC]
 grind [UO]
structure ScM where
 fs : List FrM
 ls : List FdM
 ba : Option Addr
 bc : Nat
 la : Option Addr
 lc : Nat
 lo : Nat
 hi : Nat
 lo2 : Nat
 hi2 : Nat
abbrev ScM.bv (m : ScM) : Value := .slice m.ba m.fs.length m.bc
abbrev ScM.lv (m : ScM) : Value := .slice m.la m.ls.length m.lc
abbrev scC (s : Sc) (m : ScM) : List Value := [.int .i64 s.seq, .int .i64 s.inc, m.bv, m.lv, .int .i64 s.next]
def ScM.rows (m : ScM) : List Ent := m.fs.map (fun p => p.2.ent) ++ m.ls.map (fun p => p.2.ent)
def ScM.ents (b : Nat) (s : Sc) (m : ScM) : List Ent := .blk b (scC s m).toArray 250 :: Jd m.lo m.hi 298 6 m.bv m.fs.length (frC m.fs) :: Jd m.lo2 m.hi2 254 2 m.lv m.ls.length (fdC m.ls) :: m.rows
structure ScM.Ok (s : Sc) (m : ScM) : Prop where
 begun : s.begun = m.fs.map FrM.pl
 l : s.l = m.ls.map FdM.pl
 may : ∀ p ∈ m.fs, p.1.may p.2.bs.length = true
 short : ∀ p ∈ m.ls, p.2.bs.length ≤ 90
def ScE (b : Nat) (s : Sc) (E : List Ent) : Prop := ∃ m : ScM, m.Ok s ∧ E = m.ents b s
theorem Mem.readIn {w0 w : World} {H : List Ent} {lo hi e sz m : Nat} {x : Value} {xs : List Value} (M : Mem w0 w H) (h : Jd lo hi e sz x m xs ∈ H) (hm : m ≤ maxLen) : Rd 0 w.heap.size w sz x m xs := by
 obtain ⟨p, hp⟩ := List.getElem?_of_mem h
 exact M.readAll p hp hm
end
theorem Jgh (ls : List FdM) (x : FdM) : fdC (ls ++ [x]) = fdC ls ++ x.cellsL := by simp [fdC]
theorem JaJ {α : Type} (P : List α) (t r : α) (B E : List α) : (P ++ t :: r :: (B ++ E)).Perm ((P ++ (E ++ B)) ++ [t, r]) := by
 rw [List.append_assoc]
 exact List.Perm.append_left _ ((List.perm_append_comm (l₁ := [t, r]) (l₂ := B ++ E)).trans (List.Perm.append_right _ List.perm_append_comm))
def SfH (tail : Int) (bf bd bT bG bN bR bS b : Nat) (A E E1 : List Ent) : List Ent :=
 .blk bf #[.int .i64 tail] 3 :: .blk bd #[p_ b] 75 :: .blk bT #[.func (.func 233) #[p_ bS] #[]] 329 :: .blk bG #[.func (.func 232) #[p_ bS] #[]] 329 :: .blk bN #[.int .i64 0] 35 :: .blk bR #[.int .i64 0, .int .i64 0, .slice none 0 0, .slice none 0 0, .int .i64 0] 250 :: (E1 ++ (A ++ E))
noncomputable def sc0 (tail : Int) : Sc := ⟨tail, 0, [], [], tail⟩
noncomputable def Jkq (S : DS) (tail : Int) : Sc := zW (sc0 tail) (Jiv S tail)
noncomputable def Jbt (S : DS) (tail : Int) : Sc := zW (sc0 tail) (QS S tail)
def JkJ (wc : World) (A E : List Ent) (s : Sc) (e : Ending) (w' : World) : Prop := ∃ (sq ic : Int) (ba : Option Addr) (bn bc : Nat) (ls : List FdM) (la : Option Addr) (lc lo hi : Nat), e = .returned (.tuple #[.agg #[.int .i64 sq, .int .i64 ic, .slice ba bn bc, .slice la ls.length lc, .int .i64 s.next], .int .i64 0]) ∧ s.l = ls.map FdM.pl ∧ (∀ p ∈ ls, p.2.bs.length ≤ 90) ∧ ls.length ≤ 24 ∧ Mem wc w' (Jd lo hi 254 2 (.slice la ls.length lc) ls.length (fdC ls) :: (ls.map (fun p => p.2.ent) ++ (A ++ E)))
def JkI (wc : World) (A E : List Ent) (tail : Int) (s : Sc) (e : Ending) (w' : World) : Prop := ∃ (rs : List RB) (ra : Option Addr) (rc lo hi : Nat), e = .returned (.tuple #[.slice ra rs.length rc, .agg #[.int .i64 tail, .int .i64 s.next], .int .i64 0]) ∧ rs.map RB.bs = s.l.map (·.2) ∧ (∀ r ∈ rs, r.bs.length ≤ 90) ∧ rs.length ≤ 24 ∧ Mem wc w' (Jd lo hi 77 1 (.slice ra rs.length rc) rs.length (rs.map RB.val) :: (rs.map RB.ent ++ (A ++ E)))
theorem JaW (k : Int) (w : World) : CQ 149 #[.int .i64 k] w (.bool (decide (0 ≤ k ∧ k < 8))) := by
 have M := Mem.start w
 refine qI Tryz.func149 9 ?_
 refine gq [[2,1],[4,1,1,1],[940,5]] ?_ ?_
 ·intro a h5 S
  refine gp [[0,1,1,1,1],[3],[930]] ?_
  refine ⟨Jb ?_, M.below⟩; grind
 intro a h5 S
 refine gp [[0,0,0,1,1],[3],[930]] ?_
 refine ⟨Jb ?_, M.below⟩; grind
def zVs : List Value := Jo (List.replicate 4 zV8)
theorem Jf5 {wc w : World} {A E : List Ent} {b : Nat} {S0 : DS} (k : Nat) (hE : DkE b S0 E) (M : Mem wc w (A ++ E)) (hup : S0.down = false) (hw : ∀ k, (S0.cache k).length ≤ 1000000) (hk : k < 8) (hz : JB (S0.get (26 + k)) = true) :
 CT 87 #[p_ b, .int .i64 (k : Int)] w fun e w' => ∃ bN, e = .returned (.tuple #[.slice (some ⟨bN, 0, none⟩) 4 4, .int .i64 0]) ∧ Mem wc w' (.blk bN zVs.toArray 243 :: (A ++ E)) := by
 refine qI Tryz.func87 40 ?_
 refine gp [[2,1,1],[5,1]] ?_; intro a S
 refine qY S (J9 k_ S rfl) ?_
 refine gp [[8,1]] ?_; intro a S
 refine qK S rfl (JaW _ _) M ?_; intro a w1 S hK M
 refine gp [[0,1],[2],[941,15],[5,1,1],[901]] ?_; intro a S
 rw [show (26 : Int) + (k : Int) = ((26 + k : Nat) : Int) by omega] at S
 refine qD S rfl (Ke (k := 26 + k) hE M hup o_ (hw _)) ?_
 rintro _ w2 ⟨v1, rfl, hF, hq64⟩; refine rv_ ?_; intro a S
 obtain ⟨lo, hi2, -, M1⟩ := M.pushFresh hF
 obtain ⟨q, hqb⟩ : ∃ q, S0.get (26 + k) = q := ⟨_, rfl⟩
 rw [hqb] at M1 hq64 hz
 clear M hF
 have M := M1
 clear M1
 refine gp [[0,1,1,1,1,1],[5,1,1],[2],[941,24],[6,1]] ?_; intro a S
 refine qK S rfl (zL v1 q _ (M.readAll 0 rfl (by grind [maxLen]))) M ?_; intro a w3 S hK M
 refine nxC (qf 27 S ?_ ?_)
 ·intro h27 S
  rw [hz] at h27; cases h27
 intro h27 S
 refine cT S (nxD (qN S M Ji7 ?_)); intro a w4 bN S M hB
 refine nxA (qY S (ZH (m := 4) (sz := 8) S k_ rfl) ?_); intro a S
 refine gp [[0,1,1],[4],[931]] ?_
 exact ⟨bN, rfl, M.sub (.cons_cons _ (.cons _ (List.Sublist.refl _)))⟩
def v8B (x : V8) : List UInt8 := [x.v0, x.v1, x.v2, x.v3, x.v4, x.v5, x.v6, x.v7]
def ZM (l : List V8) : List UInt8 := l.flatMap v8B
theorem Jff (l : List V8) : (ZM l).length = l.length * 8 := by
 induction l with
 | nil => rfl
 | cons p l ih => rw [show ZM (p :: l) = v8B p ++ ZM l by simp [ZM], List.length_append, ih]; simp [v8B]; omega
theorem JdM (x : V8) (w : World) : CT 344 #[.agg x.cellsL.toArray] w fun e w' => ∃ v', e = .returned v' ∧ Fresh w w' 39 1 v' (v8B x).length (Jh (v8B x)) := by
 have M := Mem.start w
 refine qI Tryz.func344 4 ?_; intro a S
 refine nxD (qW_ S M ?_); intro a w1 bB S M hB
 refine qG [1] S ?_; intro a S
 refine nxA (qY S (ZH (m := 8) (sz := 1) S k_ rfl) ?_); intro a S
 refine gp [[0,1],[3],[930]] ?_
 replace M := M.toRow (sz := 1) (m := 8) (cap := 8) (xs := Jh (v8B x)) 0 rfl rfl d_ (by grind [maxLen]) rfl rfl
 exact ⟨_, rfl, M.fresh 0 rfl⟩
theorem XA (va : Option Addr) (vc : Nat) (l : List V8) (w : World) (hv : Rd 0 w.heap.size w 8 (.slice va l.length vc) l.length (Jo l)) (hl : l.length ≤ 100) :
 CT 343 #[.slice va l.length vc, .func (.func 344) #[] #[]] w fun e w' => ∃ v', e = .returned v' ∧ Fresh w w' 5 1 v' (VQ (ZM l)).length (Jh (VQ (ZM l))) := by
 have M := Mem.start w
 have hb : ∀ i, (ZM (l.take i)).length ≤ 800 := fun i => by
  grind [Jff]
 refine qI Tryz.func343 22 ?_
 refine gp [[2,1],[4,1],[5,1],[903,39],[0,1],[3]] ?_; intro a S
 refine Jc (fun m a w' => ∃ (i : Nat) (oa : Option Addr) (oc lo hi : Nat), i ≤ l.length ∧ m = l.length - i ∧ Jk 22 a [(1, .func (.func 344) #[] #[]), (5, .slice oa (ZM (l.take i)).length oc), (8, .slice va l.length vc), (9, .int .i64 (l.length : Int)), (10, .int .i64 (i : Int))] ∧ Mem w w' [Jd lo hi 5 1 (.slice oa (ZM (l.take i)).length oc) (ZM (l.take i)).length (Jh (ZM (l.take i)))]) (l.length) ?_ ?_
 ·skip
  obtain ⟨lo, hi, M1⟩ := M.nilRow 5 1
  exact ⟨0, none, 0, lo, hi, Nat.zero_le _, rfl, S.sub _ rfl, M1⟩
 intro m a wl
 rintro ⟨i, oa, oc, lo, hi, hi', rfl, S, M⟩
 refine gq [[2,1],[3],[943,11]] ?_ ?_
 ·intro a h11 S
  refine gp [[8,1]] ?_; intro a S
  refine qD S rfl (K4 _ (ZM (l.take i)) _ (M.readAll 0 rfl (by grind [maxLen])) (by grind)) ?_
  rintro _ w5 ⟨v1, rfl, hF⟩; refine rv_ ?_; intro a S
  obtain ⟨lo3, hi3, -, M1⟩ := M.pushFresh hF; clear M; have M := M1; clear M1
  refine gp [[0,1],[3],[930]] ?_
  obtain rfl : i = l.length := by omega
  rw [List.take_length] at M
  exact ⟨_, rfl, M.fresh 0 rfl⟩
 intro a h11 S
 refine gp [[6]] ?_; intro a S
 obtain ⟨p, hp⟩ : ∃ p, l[i]? = some p := ⟨_, List.getElem?_eq_getElem o_⟩
 refine gp [[1],[907,39,8]] ?_; intro a S
 refine qY S (Ja S k_ rfl rfl ((M.arg hv).at_.row (i := i) (Uh hp) rfl)) ?_; intro a S
 refine qN S M Kj ?_; intro a w1 bX S M hB
 refine go [[900,0],[2]] ?_; intro a w2 S M
 have hbi := hb i
 have hlp : (v8B p).length = 8 := rfl
 have hnx : ZM (l.take (i + 1)) = ZM (l.take i) ++ v8B p := by grind [List.take_add_one, ZM]
 refine gp [[1,1,1],[902,0,8]] ?_; intro a S
 refine JR (xs := [.tmp 16]) (fi := []) (ca := []) S (Ji Tryz.func344 d_ rfl) rfl rfl (rfl) rfl (JdM p _) ?_
 rintro _ w3 ⟨v1, rfl, hF⟩; refine rv_ ?_; intro a S
 obtain ⟨lo3, hi3, -, M1⟩ := M.pushFresh hF; clear M; have M := M1; clear M1
 refine JI (e := 5) (sz := 1) (by_ := 1) (zc := Ym) S M 2 rfl rfl k_ rfl d_ rfl rfl rfl (M.readAll 0 rfl (by grind [maxLen])) (JA _) o_ (by grind [maxLen]) ?_; intro a w4 vA loA hiA S M
 obtain ⟨aA, cA, rfl, -, -⟩ := (M.readAll 0 rfl (by grind [maxLen])).form
 refine qY S (JP S rfl) ?_
 refine gp [[4],[901],[0,1],[2]] ?_; intro a S
 replace M := (M.drp 1).drp 1
 refine ⟨l.length - (i + 1), by omega, i + 1, aA, cA, loA, hiA, by omega, rfl, ?_, ?_⟩
 ·rw [hnx, List.length_append]; exact S.sub _ rfl
 grind [Vv]
def KA (l : List V8) : List UInt8 := VQ (ZM l)
abbrev h32 (x0 x1 x2 x3 : V8) : List Value := [.int .u8 (x0.v0.toNat : Int), .int .u8 (x0.v1.toNat : Int), .int .u8 (x0.v2.toNat : Int), .int .u8 (x0.v3.toNat : Int), .int .u8 (x0.v4.toNat : Int), .int .u8 (x0.v5.toNat : Int), .int .u8 (x0.v6.toNat : Int), .int .u8 (x0.v7.toNat : Int), .int .u8 (x1.v0.toNat : Int), .int .u8 (x1.v1.toNat : Int), .int .u8 (x1.v2.toNat : Int), .int .u8 (x1.v3.toNat : Int), .int .u8 (x1.v4.toNat : Int), .int .u8 (x1.v5.toNat : Int), .int .u8 (x1.v6.toNat : Int), .int .u8 (x1.v7.toNat : Int), .int .u8 (x2.v0.toNat : Int), .int .u8 (x2.v1.toNat : Int), .int .u8 (x2.v2.toNat : Int), .int .u8 (x2.v3.toNat : Int), .int .u8 (x2.v4.toNat : Int), .int .u8 (x2.v5.toNat : Int), .int .u8 (x2.v6.toNat : Int), .int .u8 (x2.v7.toNat : Int), .int .u8 (x3.v0.toNat : Int), .int .u8 (x3.v1.toNat : Int), .int .u8 (x3.v2.toNat : Int), .int .u8 (x3.v3.toNat : Int), .int .u8 (x3.v4.toNat : Int), .int .u8 (x3.v5.toNat : Int), .int .u8 (x3.v6.toNat : Int), .int .u8 (x3.v7.toNat : Int)]
theorem Jek (x0 x1 x2 x3 : V8) : Jo [x0, x1, x2, x3] = h32 x0 x1 x2 x3 := rfl
set_option maxHeartbeats 1000000 in
theorem JfF {wc w : World} {A E : List Ent} {b bS o vc : Nat} {S0 : DS} (k : Nat) (x0 x1 x2 x3 : V8) (hE : DkE b S0 E) (M : Mem wc w (A ++ E)) (hup : S0.down = false) (hk : k < 8) (hw : ∀ k, (S0.cache k).length ≤ 1000000) (hc : ∀ W, Mem wc W (A ++ E) → CellsAt W bS o (Jo [x0, x1, x2, x3])) :
 CT 320 #[p_ b, .int .i64 (k : Int), .slice (some ⟨bS, o, none⟩) 4 vc] w fun e w' => e = .returned (.int .i64 0) ∧ ∃ E', DkE b (S0.write (26 + (k : Int)) (VF (KA [x0, x1, x2, x3]))) E' ∧ Mem wc w' (A ++ E') := by
 have hl : (KA [x0, x1, x2, x3]).length = 36 := rfl
 refine qI Tryz.func320 29 ?_
 refine gp [[2,1],[5,1]] ?_; intro a S
 refine qY S (J9 k_ S rfl) ?_
 refine gp [[8,1]] ?_; intro a S
 refine qK S rfl (JaW _ _) M ?_; intro a w1 S hK M
 refine gp [[0,1,1],[941,14],[0,1],[903,39],[0,1,1],[2],[941,18],[5,1]] ?_; intro a S
 refine qY S (Jhj (m := 4) (e := 39) S rfl Tryz.underlying243 o_) ?_; intro a S
 have hc2 := hc _ M
 rw [Jek] at hc2
 refine qY S (Ja (cs := [.int .u8 (x0.v0.toNat : Int), .int .u8 (x0.v1.toNat : Int), .int .u8 (x0.v2.toNat : Int), .int .u8 (x0.v3.toNat : Int), .int .u8 (x0.v4.toNat : Int), .int .u8 (x0.v5.toNat : Int), .int .u8 (x0.v6.toNat : Int), .int .u8 (x0.v7.toNat : Int), .int .u8 (x1.v0.toNat : Int), .int .u8 (x1.v1.toNat : Int), .int .u8 (x1.v2.toNat : Int), .int .u8 (x1.v3.toNat : Int), .int .u8 (x1.v4.toNat : Int), .int .u8 (x1.v5.toNat : Int), .int .u8 (x1.v6.toNat : Int), .int .u8 (x1.v7.toNat : Int), .int .u8 (x2.v0.toNat : Int), .int .u8 (x2.v1.toNat : Int), .int .u8 (x2.v2.toNat : Int), .int .u8 (x2.v3.toNat : Int), .int .u8 (x2.v4.toNat : Int), .int .u8 (x2.v5.toNat : Int), .int .u8 (x2.v6.toNat : Int), .int .u8 (x2.v7.toNat : Int), .int .u8 (x3.v0.toNat : Int), .int .u8 (x3.v1.toNat : Int), .int .u8 (x3.v2.toNat : Int), .int .u8 (x3.v3.toNat : Int), .int .u8 (x3.v4.toNat : Int), .int .u8 (x3.v5.toNat : Int), .int .u8 (x3.v6.toNat : Int), .int .u8 (x3.v7.toNat : Int)]) S k_ rfl rfl hc2) ?_; intro a S
 refine qN S M Ji7 ?_; intro a w2 bX S M hB
 refine go [[900,0],[4]] ?_; intro a w3 S M
 refine qY S (ZH (m := 4) (sz := 8) S k_ rfl) ?_; intro a S
 refine qD S rfl (XA (some ⟨bX, 0, none⟩) 4 [x0, x1, x2, x3] _ (by rw [Jek]; exact M.sliceAt 0 rfl (M.cellsAt (k := 32) 0 rfl rfl) rfl (Nat.le_refl _) (by grind [maxLen])) (show 4 ≤ 100 by omega)) ?_
 rintro _ w4 ⟨v1, rfl, hF2⟩; refine rv_ ?_; intro a S
 obtain ⟨lo2, hi2, -, M1⟩ := M.pushFresh hF2; clear M; have M := M1; clear M1
 obtain ⟨bs, hbs⟩ : ∃ bs, VQ (ZM [x0, x1, x2, x3]) = bs := ⟨_, rfl⟩
 have hb36 : bs.length = 36 := by rw [← hbs]; exact hl
 rw [hbs] at M
 refine gp [[0,1],[4,1,1],[901],[0,1]] ?_; intro a S
 refine qD S rfl (yT (A := _ :: _ :: A) (k := 26 + (k : Int)) (bs := bs) hE M (fun W M => M.readAll 0 rfl (by grind [maxLen])) hup o_ o_ (hw _)) ?_
 rintro _ w5 ⟨rfl, E', hE', M2⟩; refine rv_ ?_; intro a S; have M := M2; clear M2
 rw [← hbs] at hE'
 refine gp [[0,1],[3],[930]] ?_
 exact ⟨rfl, E', hE', (M.drop 0).drop 0⟩
section
variable {ds : List Deferred} {P : Program} {n : Nat} {a : Act} {L : List (Nat × Value)} {w : World}
theorem WF {x lo hi : Operand} {b o t m sz : Nat} {i j : Int} {k1 k2 : IntKind} (S : SeesD ds n a L) (hE : YQ P t = some (m, sz)) (hx : val L x = some (.pointer (some ⟨b, o, none⟩))) (h1 : val L lo = some (.int k1 i)) (h2 : val L hi = some (.int k2 j)) (h : 0 ≤ i ∧ i ≤ j ∧ j ≤ m ∧ i < m)
 {d : Option Tmp} {ty : TypeId} {p : String} {ed : Array Edge} {g : Option (Nat × Bool)} : Je P a ⟨d, .slice t x (some lo) (some hi) none, ty, p, ed, g⟩ w (.slice (some ⟨b, o + i.toNat * sz, none⟩) (j.toNat - i.toNat) (m - i.toNat)) := by
 obtain ⟨e, hu, inf, hinf, rfl⟩ := Yr hE
 unfold Je execOp
 simp only [Option.map_none, Option.map_some, S.eval hx, S.eval h1, S.eval h2]
 have e0 : (⟨b, o, none⟩ : Addr).add (i.toNat * inf.size) = ⟨b, o + i.toNat * inf.size, none⟩ := by simp [Addr.add]
 have hne : ¬ m = i.toNat := by omega
 simp [Instr.sliceAt, Instr.sliceBounds, Instr.sliceBound, asIntOf, underlying, hu, Instr.sureAddr, sizeOf, typeInfo, hinf, h, hne, go_sem]
 grind
end
def jZ (s : Su) (a b : Int) : St := ⟨[.int .i64 s.gen, .int .i64 s.tail], s.owned, [.int .i64 s.inc, .int .i64 s.bound, .int .i64 s.m0, .int .i64 s.m1, .int .i64 s.m2, .int .i64 s.m3, .int .i64 s.m4, .int .i64 s.m5, .int .i64 s.m6, .int .i64 s.m7, .int .i64 a, .int .i64 b], List.replicate 32 zV8, 0⟩
theorem jK (s : Su) (a b : Int) : (jZ s a b).ok := ⟨rfl, rfl, rfl, rfl, rfl⟩
theorem Jdl (s : Su) : Jt (zSt.cellsL (.slice none 0 0)) 0 s.cellsL = (jZ s 0 0).cellsL (.slice none 0 0) := by kernel_rfl
theorem Jfq (s : Su) (a b : Int) (dv : Value) : (((jZ s 0 0).cellsL dv).set 13 (.int .i64 a)).set 14 (.int .i64 b) = (jZ s a b).cellsL dv := rfl
theorem Je4 {P Q : List Value} {k : Nat} (h : k < 8) (hp : P.length = 15) : (P ++ (Jo (List.replicate 32 zV8) ++ Q)).take (15 + k * 32) ++ zVs ++ (P ++ (Jo (List.replicate 32 zV8) ++ Q)).drop (15 + k * 32 + zVs.length) = P ++ (Jo (List.replicate 32 zV8) ++ Q) := by
 have hz : Jo (List.replicate 32 zV8) = List.replicate 256 (.int .u8 0) := by kernel_rfl
 have hv : zVs = List.replicate 32 (.int .u8 0) := by kernel_rfl
 rw [hz, hv, List.length_replicate]
 rw [List.take_append, List.drop_append, hp, List.take_of_length_le o_, List.drop_of_length_le o_]
 grind [List.replicate_append_replicate]
theorem Jdk (s : Su) (a b : Int) (dv : Value) {k : Nat} (h : k < 8) : ((jZ s a b).cellsL dv).take (15 + k * 32) ++ zVs ++ ((jZ s a b).cellsL dv).drop (15 + k * 32 + zVs.length) = (jZ s a b).cellsL dv :=
 Je4 (P := (jZ s a b).pre) h rfl
def Jb1 : St → Pl → Rl → St × Pl
 | s, ps, [] => (s, ps)
 | s, ps, q :: l => Jb1 (Gx s ps q.1 q.2) (JL ps q.1 q.2).1 l
structure Recs (l : Rl) (bs : List (List UInt8)) : Prop where
 len : l.length = bs.length
 get : ∀ (i : Nat) (q : Rc × List Wr) (b : List UInt8), l[i]? = some q → bs[i]? = some b → q.1.enc q.2 = b ∧ YX q.1 q.2 = true
theorem Jf0 {sec : Nat → List UInt8} {x : Su} (h : gsR sec = (x, 0)) : 1 ≤ x.tail ∧ x.tail ≤ 1099511627776 := by
 unfold gsR at h
 cases hb : J7 sec 2 with
 | some y =>
   rw [hb] at h
   obtain rfl : y = x := congrArg Prod.fst h
   have := ze hb
   exact ⟨this.2.2.2.1, this.2.2.2.2.1⟩
 | none =>
   grind [Y6]
def JkN (wc : World) (A E : List Ent) (S0 : DS) (e : Ending) (w' : World) : Prop :=
 ∃ (s : St) (ps : Pl) (da : Option Addr) (dc lo hi : Nat) (cs : List Value) (es : List Ent) (er : Int), e = .returned (.tuple #[.agg (s.cellsL (.slice da ps.length dc)).toArray, .int .i64 er]) ∧
  Mem wc w' (Jd lo hi 57 6 (.slice da ps.length dc) ps.length cs :: (es ++ (A ++ E))) ∧ PrBk cs ps es ∧ s.ok ∧ ps.length ≤ 24 ∧
  (er = 0 → ∃ (x : Su) (l : Rl), gsR (Y7 S0) = (x, 0) ∧ Recs l ((Jbt S0 x.tail).l.map (·.2)) ∧ Jb1 (jZ x x.tail (Jbt S0 x.tail).next) [] l = (s, ps))
def jd (p : Pr) : Rc := ⟨2, p.name, false, p.give, p.take, 0, 0, 0, 0⟩
theorem KP (p : Pr) (ad : Option Addr) (l c : Nat) (w : World) : CQ 317 #[.agg (p.cellsL (.slice ad l c)).toArray] w (.agg ((jd p).cells (.slice ad l c))) := by
 have M := Mem.start w
 refine qI Tryz.func317 12 ?_; intro a S
 refine nxD (qW_ S M ?_); intro a w1 bP S M hB
 refine qN S M cz4 ?_; intro a w2 bZ S M hB
 refine gp [[4,1],[902,1,3],[0,4,2,5,2,6,2]] ?_; intro a S
 refine qB_ Gs cz7 S ?_
 refine go [[900,0],[3]] ?_; intro a w3 S M
 refine Vb S rfl (rA_ 12 0 M) ?_
 exact ⟨rfl, M.below⟩
def stG (x : Su) (o a b : Int) (h : List V8) (n : Int) : St := ⟨[.int .i64 x.gen, .int .i64 x.tail], o, [.int .i64 x.inc, .int .i64 x.bound, .int .i64 x.m0, .int .i64 x.m1, .int .i64 x.m2, .int .i64 x.m3, .int .i64 x.m4, .int .i64 x.m5, .int .i64 x.m6, .int .i64 x.m7, .int .i64 a, .int .i64 b], h, n⟩
theorem Jiu (x : Su) (o a b : Int) {h : List V8} (n : Int) (hh : h.length = 32) : (stG x o a b h n).ok := ⟨rfl, rfl, hh, rfl, rfl⟩
theorem Jix (s : Int) : 0 ≤ 2 + s % 24 ∧ 2 + s % 24 < 34 := by omega
set_option maxHeartbeats 1000000 in
theorem Jbd {wc w : World} {A E : List Ent} {b : Nat} {S0 : DS} (f : Fr) (ad : Option Addr) (c : Nat) (ld : List UInt8) (hE : DkE b S0 E) (M : Mem wc w (A ++ E)) (hv : RdH wc A (.slice ad ld.length c) ld) (hup : S0.down = false) (hm : f.may ld.length = true) (hw : ∀ k, (S0.cache k).length ≤ 1000000) :
 CT 267 #[p_ b, .agg (f.cells (.slice ad ld.length c)).toArray] w fun e w' => e = .returned (.int .i64 0) ∧ ∃ E', DkE b (S0.write (2 + f.seq % 24) (Zd f ld)) E' ∧ Mem wc w' (A ++ E') := by
 have hm2 := hm
 simp only [Fr.may, decide_eq_true_eq] at hm2
 have hA : ∀ W, Mem wc W (A ++ E) → Bs 0 W.heap.size W (.slice ad ld.length c) ld := fun W M => hv _ (M.sub (List.sublist_append_left _ _))
 have hpe : plE f.seq = 0 := by grind [plE]
 have hpv : plV f.seq = 2 + f.seq % 24 := by grind [plV]
 have h64 := XH hm
 refine qI Tryz.func267 29 ?_; intro a S
 refine nxD (qW_ S M ?_); intro a w1 bB S M hB
 refine gp [[0,1],[4,1,1]] ?_; intro a S
 refine qK S rfl (EO f.seq _) M ?_; intro a w2 S hK M
 refine gp [[0,1,1,1,1,1],[4]] ?_; intro a S
 rw [hpe, hpv] at S
 refine gp [[1,1,1],[2],[941,15],[5],[902,0,6]] ?_; intro a S
 refine qD S rfl (JeS f (.slice ad ld.length c) ld _ (hA _ (M.drop 0))) ?_
 rintro _ w3 hP; obtain ⟨vb, lo, hi, rfl, hK, M2⟩ := JeR M hP; refine rv_ ?_; intro a S; have M := M2; clear M2
 rw [if_pos hm] at S
 rw [Kz hm] at M
 refine gp [[0,1,1,1,1,1],[5,1,1],[2],[941,23],[5,1,1,1]] ?_; intro a S
 refine qD S rfl (yT (A := _ :: _ :: A) (k := 2 + f.seq % 24) (bs := Zd f ld) hE M (fun W M => M.readAll 0 rfl (by grind [maxLen])) hup (Jix _) o_ (hw _)) ?_
 rintro _ w4 ⟨rfl, E', hE', M2⟩; refine rv_ ?_; intro a S; have M := M2; clear M2
 rw [Qa h64] at hE'
 refine gp [[0,1],[3],[930]] ?_
 exact ⟨rfl, E', hE', (M.drop 0).drop 0⟩
def jc (S : DS) (fs : List (Fr × List UInt8)) : DS := fs.foldl (fun S x => S.write (2 + x.1.seq % 24) (Zd x.1 x.2)) S
def Df (t n : Int) (bs : List UInt8) : Prop := bs ≠ [] ∧ bs.length ≤ 90 ∧ (nOf bs.length : Int) ≤ 24 - (n - t)
instance (t n : Int) (bs : List UInt8) : Decidable (Df t n bs) := by unfold Df; infer_instance
def Jkh (t n inc : Int) (bs : List UInt8) (S0 : DS) (n' er : Int) (S1 : DS) : Prop := (Df t n bs ∧ n' = n + (nOf bs.length : Nat) ∧ er = 0 ∧ S1 = jc S0 (V1 bs n inc)) ∨ (¬ Df t n bs ∧ n' = n ∧ er ≠ 0 ∧ S1 = S0)
theorem Yp {S : DS} {k : Int} {bs : List UInt8} {m : Nat} (h : ∀ j, (S.cache j).length ≤ m) (j : Int) : ((S.write k bs).cache j).length ≤ m + 1 := by
 grind [DS.write]
theorem jp (fs : List (Fr × List UInt8)) : ∀ {S : DS} {m : Nat}, (∀ j, (S.cache j).length ≤ m) → ∀ j, ((jc S fs).cache j).length ≤ m + fs.length := by
 induction fs with
 | nil => intro S m h j; exact h j
 | cons x fs ih =>
   intro S m h j
   have := ih (Yp (k := 2 + x.1.seq % 24) (bs := Zd x.1 x.2) h) j
   grind [jc]
theorem vO (fs : List (Fr × List UInt8)) : ∀ (S : DS), (jc S fs).down = S.down := by
 induction fs with
 | nil => intro S; rfl
 | cons x fs ih => intro S; exact ih _
theorem JdO (S : DS) (fs : List (Fr × List UInt8)) (x : Fr × List UInt8) : jc S (fs ++ [x]) = (jc S fs).write (2 + x.1.seq % 24) (Zd x.1 x.2) := by grind [jc]
theorem Jd7 {n : Nat} (h : n ≤ 90) : nOf n ≤ 2 := by grind [nOf]
set_option maxHeartbeats 2000000 in
theorem UZ {wc w : World} {A E : List Ent} {b : Nat} {S0 : DS} (t n inc : Int) (v : Value) (bs : List UInt8) (hE : DkE b S0 E) (M : Mem wc w (A ++ E)) (hv : RdH wc A v bs) (hup : S0.down = false) (hl : Zb t n) (hn : n ≤ 2147483648) (hi : 0 ≤ inc ∧ inc ≤ 1048576) (hw : ∀ k, (S0.cache k).length ≤ 100000) :
 CT 186 #[p_ b, .agg #[.int .i64 t, .int .i64 n], .int .i64 inc, v] w fun e w' => ∃ n' er S1, e = .returned (.tuple #[.agg #[.int .i64 t, .int .i64 n'], .int .i64 er]) ∧ Jkh t n inc bs S0 n' er S1 ∧ ∃ E', DkE b S1 E' ∧ Mem wc w' (A ++ E') := by
 have hA : ∀ W, Mem wc W (A ++ E) → Bs 0 W.heap.size W v bs := fun W M => hv _ (M.sub (List.sublist_append_left _ _))
 have hl' := hl
 refine qI Tryz.func186 63 ?_; intro a S
 refine nxD (qW_ S M ?_); clear S M a; intro a w1 bL S M hB
 refine qN S M Zy ?_; clear S M a; intro a w2 bR S M hB
 refine qG [1] S ?_; clear S a; intro a S
 refine nxC (wp_seq (nxD (qG [1] S ?_))); clear S a; intro a S
 refine qY S (J9 k_ S rfl) ?_; clear S a; intro a S
 refine nxC (cF S (wp_skip (Jn (wp_seq (nxD (qY S (qL2 S M 1) ?_)))))); clear S a; intro a S
 refine qK S rfl (JcF t n _) M ?_; clear S M a; intro a w3 S hK M
 refine qG [1] S ?_; clear S a; intro a S
 refine gp [[2],[941,22]] ?_; intro a S
 refine cF S (wp_skip (nxE (qR [1, 2, 2, 1] S M ?_))); clear S a; intro a S
 refine qD S rfl (Jid v bs n inc _ (hA _ ((M.drop 0).drop 0)) o_) ?_
 rintro _ w4 ⟨vc, rfl, hK, cs, hF⟩; refine ⟨_, rfl, ?_⟩; clear S a; intro a S
 obtain ⟨lo, hi2, hlo, M2⟩ := M.pushFrs hK hF; clear M; have M := M2; clear M2
 refine qG [1, 1, 1, 1, 1] S ?_; clear S a; intro a S
 refine nxC (wp_seq (nxD (qG [1, 1] S ?_))); clear S a; intro a S
 refine nxC (Js (t := 33) S rfl ?_ ?_)
 ·clear S; intro h33 S
  refine cT S (nxD (qY S (qL2 S M 2) ?_)); clear S a; intro a S
  refine qG [1] S ?_; clear S a; intro a S
  refine qS (sz := 2) (us := [_, _]) S M 1 ?_; clear M; intro w5 M
  refine qG [1] S ?_; clear S a; intro a S
  replace S := S.keep [0, 1, 2, 3, 5, 8, 18, 22, 10, 11, 33, 9]
  refine nxC (wp_ret (Yu (Jr S rfl (rA_ 2 1 M) rT_ ?_)))
  refine ⟨n, _, S0, rfl, .inr ⟨?_, rfl, ?_, rfl⟩, E, hE, ((M.drop 0).drop 0).drop 0⟩
  ·intro hok
   have hc : Yn bs n inc := ⟨hok.1, by omega, hi, hok.2.1, by have := Jd7 hok.2.1; omega⟩
   grind [Xr]
  grind
 clear S; intro h33 S
 refine gp [[4]] ?_; intro a S
 have hc : Yn bs n inc := by
  grind [Xr]
 have hcl : (V1 bs n inc).length = nOf bs.length := by grind [V1]
 have hcR : Qq bs n inc = V1 bs n inc := by grind [Qq]
 rw [hcR] at M
 have hn2 := Jd7 hc.2.2.2.1
 have hF0 := (M.own 0 rfl)
 obtain ⟨va, vcp, rfl, -, -⟩ := (hF0.1).form
 rw [hcl] at S M
 refine wp_region_lit (qY S (qL2 S M 2) ?_); clear S a; intro a S
 refine qG [1] S ?_; clear S a; intro a S
 refine qY S (qH 298 S) ?_; clear S a; intro a S
 refine qD S rfl (JjD t n (nOf bs.length) _ hl o_) ?_
 rintro _ w6 ⟨er, x, y, tv, rfl, hK2, hT⟩; refine ⟨_, rfl, ?_⟩; clear S a; intro a S; replace M := M.grow hK2
 refine qG [1, 1, 1, 1] S ?_; clear S a; intro a S
 refine qN S M Zy ?_; clear S M a; intro a w7 bT S M hB
 refine qS (sz := 2) (us := [_, _]) S M 0 ?_; clear M; intro w8 M
 refine qG [1, 1] S ?_; clear S a; intro a S
 replace S := S.keep [0, 1, 2, 3, 5, 8, 9, 18, 22, 10, 33, 12, 11]
 refine nxC (wp_seq (nxD (qG [1, 1] S ?_))); clear S a; intro a S
 refine gq [[2],[940,45]] ?_ ?_
 ·intro a h45 S
  refine cT S (nxD (qY S (qL2 S M 3) ?_)); clear S a; intro a S
  refine qG [1] S ?_; clear S a; intro a S
  refine qS (sz := 2) (us := [_, _]) S M 2 ?_; clear M; intro w9 M
  refine qG [1] S ?_; clear S a; intro a S
  refine nxC (wp_ret (Yu (Jr S rfl (rA_ 2 2 M) rT_ ?_)))
  refine ⟨n, _, S0, rfl, .inr ⟨?_, rfl, ?_, rfl⟩, E, hE, (((M.drop 0).drop 0).drop 0).drop 0⟩
  ·intro hok
   rcases hT with ⟨rfl, -⟩ | ⟨-, hno⟩
   ·omega
   ·exact hno ⟨hok.2.2, by omega⟩
  omega
 intro a h45 S
 refine gp [[5]] ?_; intro a S
 obtain ⟨rfl, hfit, rfl, rfl⟩ : er = 0 ∧ KD t n (nOf bs.length : Nat) ∧ t = x ∧ n + (nOf bs.length : Nat) = y := by
  grind
 refine wp_region_lit (qG [1] S ?_); clear S a; intro a S
 refine qY S (qH 298 S) ?_; clear S a; intro a S
 refine qG [1] S ?_; clear S a; intro a S
 refine nxC (wp_block (Jc (fun m a w' => ∃ (i : Nat) (E1 : List Ent), i ≤ nOf bs.length ∧ m = nOf bs.length - i ∧ DkE b (jc S0 ((V1 bs n inc).take i)) E1 ∧ Jk 63 a [(0, p_ b), (5, p_ bL), (8, p_ bR), (12, p_ bT), (48, .slice va (nOf bs.length) vcp), (49, .int .i64 (nOf bs.length : Int)), (50, .int .i64 (i : Int))] ∧ Mem wc w' ([.blk bT #[.int .i64 t, .int .i64 (n + (nOf bs.length : Nat))] 97, .own lo hi2 (fun w => FrsC cs lo hi2 w (.slice va (nOf bs.length) vcp) (V1 bs n inc)), .blk bR Zy 97, .blk bL #[.int .i64 t, .int .i64 n] 97] ++ A ++ E1)) (nOf bs.length) ?_ ?_))
 ·skip
  exact ⟨0, E, Nat.zero_le _, rfl, hE, S.sub _ rfl, M⟩
 clear S M a; intro m a wl
 rintro ⟨i, E1, hi', rfl, hE1, S, M⟩
 replace M := M
 replace M := M.c_
 refine nxD (qG [1] S ?_); clear S a; intro a S
 refine gq [[3],[943,51]] ?_ ?_
 ·intro a h51 S
  refine cF S (wp_exit (ZN (ZN (jS (nxE (qY S (qL2 S M 0) ?_)))))); clear S a; intro a S
  refine qS (sz := 2) (us := [_, _]) S M 2 ?_; clear M; intro w13 M
  refine qG [1] S ?_; clear S a; intro a S
  refine nxC (wp_ret (Jr S rfl (rA_ 2 2 M) rT_ ?_))
  obtain rfl : i = nOf bs.length := by omega
  rw [List.take_of_length_le o_] at hE1
  exact ⟨_, 0, _, rfl, .inl ⟨⟨hc.1, hc.2.2.2.1, hfit.1⟩, rfl, rfl, rfl⟩, E1, hE1, (((M.drop 0).drop 0).drop 0).drop 0⟩
 intro a h51 S
 refine gp [[6]] ?_; intro a S
 have hlt : i < nOf bs.length := by omega
 have hF1 := M.own 1 rfl
 obtain ⟨f, ld, hfi⟩ : ∃ f ld, (V1 bs n inc)[i]? = some (f, ld) := ⟨_, _, List.getElem?_eq_getElem o_⟩
 obtain ⟨lv, hrow, hlv0⟩ := hF1.2 i f ld hfi
 have hmay : f.may ld.length = true := by
  grind [Jgt, Jgc]
 obtain ⟨la, lc, rfl, -, -⟩ := hlv0.form
 refine wp_region_lit (qY S (qX 298 6 S ((by have h := (M.own 1 rfl).1.wide (Nat.zero_le _) (M.fits _ (List.mem_of_getElem? (show _[1]? = _ from rfl))).2; omega))) ?_); clear S a; intro a S
 replace S := S.n_
 refine qY S (Ja S k_ rfl rfl (((M.own 1 rfl).row hfi hrow).1)) ?_; clear S a; intro a S
 refine qN S M Ey ?_; clear S M a; intro a w10 bX S M hB
 refine qS (sz := 6) (us := [_, _, _, _, _, _]) S M 0 ?_; clear M; intro w11 M
 refine nxA (qG [1] S ?_); clear S a; intro a S
 refine qY S (qL6 S M 0) ?_; clear S a; intro a S
 refine qD S rfl (Jbd (A := _ :: _ :: _ :: _ :: _ :: A) f la lc ld hE1 M (fun W M => (((M.own 2 rfl).row hfi hrow).2).wide (Nat.zero_le _) (M.fits _ (List.mem_of_getElem? (show _[2]? = _ from rfl))).2) (by grind [vO]) hmay (fun k => by have := jp ((V1 bs n inc).take i) hw k; grind)) ?_
 rintro _ w12 ⟨rfl, E2, hE2, M2⟩; refine ⟨_, rfl, ?_⟩; clear S M a; intro a S; have M := M2; clear M2
 replace M := M.c_
 refine qG [1] S ?_; clear S a; intro a S
 refine nxA (qG [1, 1] S ?_); clear S a; intro a S
 refine gp [[2],[941,58]] ?_; intro a S
 refine cF S (wp_skip (Jy (nxF (qA S ?_)))); clear S a; intro a S
 refine qG [1] S ?_; clear S a; intro a S
 refine nxC ?_
 skip
 replace M := M.drp 0
 refine ⟨nOf bs.length - (i + 1), by omega, i + 1, E2, by omega, rfl, ?_, S.sub _ rfl, M⟩
 grind [List.take_succ_eq_append_getElem, JdO]
abbrev Jbs (x : FrB) : List UInt8 := Zd x.1 x.2
def zero64 : List UInt8 := List.replicate 64 0
def Jh5 (inc : Int) : Int → List (List UInt8) → List FrB
 | _, [] => []
 | q, r :: rs => V1 r q inc ++ Jh5 inc (q + (nOf r.length : Nat)) rs
def Jif : Int → List (List UInt8) → List (Int × List UInt8)
 | _, [] => []
 | q, r :: rs => (q, r) :: Jif (q + (nOf r.length : Nat)) rs
theorem zA (r : List UInt8) (q inc : Int) : (V1 r q inc).length = nOf r.length := by grind [V1]
def Jk4 (q inc : Int) (rest : List (List UInt8)) : Prop := ∀ x t, rest = x :: t → ∀ f ld, yl x = some (f, ld) → f.seq = q → inc ≤ f.inc → f.part = 0 →
 (1 : Int) < f.of ∧ ∀ y t', t = y :: t' → ∀ g le, yl y = some (g, le) → g.seq = q + 1 → g.part = 1 → g.inc = f.inc → False
def Wq (S : DS) (t : Int) (j : Nat) : List UInt8 := S.dur (2 + (t + (j : Int)) % 24).toNat
def EE (S : DS) (t : Int) (j : Nat) : List (List UInt8) := S.cache (2 + (t + (j : Int)) % 24)
def DS.still (S : DS) : Prop := ∀ k, S.cache k = []
structure JInv (S : DS) (t : Int) (G : List FrB) (c : Nat) : Prop where
 len : G.length ≤ 24
 le : c ≤ G.length
 old : ∀ j x, j < c → G[j]? = some x → Wq S t j = Jbs x ∧ EE S t j = []
 new : ∀ j, c ≤ j → j < 24 → Wq S t j = zero64 ∧ EE S t j = (match G[j]? with
  | some x => [Jbs x]
  | none => [])
def Jko (n : Int) : Int := if n < 1 ∨ 90 < n then 0 else (n + 44) / 45
theorem Ub {wc w : World} {A E : List Ent} {b : Nat} {S0 : DS} (hE : DkE b S0 E) (M : Mem wc w (A ++ E)) (hup : S0.down = false) (hw : ∀ k, (S0.cache k).length ≤ 1000000) :
 CT 187 #[p_ b] w fun e w' => e = .returned (.int .i64 0) ∧ ∃ E', DkE b S0.flush E' ∧ Mem wc w' (A ++ E') := by
 refine qI Tryz.func187 5 ?_
 refine gp [[2,1],[4,1]] ?_; intro a S
 refine qD S rfl (Xk hE M hup hw) ?_
 rintro _ w1 ⟨rfl, E', hE', M2⟩; have M := M2; clear M2
 refine gp [[0,1],[3],[930]] ?_
 grind
def Jkn (n : Int) : Int := if n < 1 ∨ 90 < n then 0 else (n + 44) / 45
abbrev fmE (lo hi : Nat) (v : Value) (fs : List FrM) : List Ent := Jd lo hi 298 6 v fs.length (frC fs) :: fs.map (fun p => p.2.ent)

section
variable {A : List Ent} {b : Nat} {wo w : World}
structure RS where
 sure : List (List UInt8)
 cache : List (Int × List UInt8)
structure R3 where
 sa : Option Addr
 sc : Nat
 slo : Nat
 shi : Nat
 ca : Option Addr
 cc : Nat
 clo : Nat
 chi : Nat
 sure : List RB
 cache : List FdM
 pool : List RB
abbrev R3.cells (r : R3) : List Value := [.slice r.sa r.sure.length r.sc, .slice r.ca r.cache.length r.cc, .bool false]
abbrev R3.rowS (r : R3) : Ent := Jd r.slo r.shi 77 1 (.slice r.sa r.sure.length r.sc) r.sure.length (r.sure.map RB.val)
abbrev R3.rowC (r : R3) : Ent := Jd r.clo r.chi 125 2 (.slice r.ca r.cache.length r.cc) r.cache.length (fdC r.cache)
def R3.ents (r : R3) (b : Nat) : List Ent := .blk b r.cells.toArray 120 :: r.rowS :: r.rowC :: r.pool.map RB.ent
structure R3.Ok (r : R3) : Prop where
 len : r.sure.length = 34
 inS : ∀ x ∈ r.sure, x ∈ r.pool ∧ x.bs.length = 64
 inC : ∀ x ∈ r.cache, x.2 ∈ r.pool ∧ x.2.bs.length = 64 ∧ 0 ≤ x.1 ∧ x.1 < 34
def R3.st (r : R3) : RS := ⟨r.sure.map RB.bs, r.cache.map FdM.pl⟩
def R3E (b : Nat) (S : RS) (E : List Ent) : Prop := ∃ r : R3, r.Ok ∧ S = r.st ∧ E = r.ents b
def RS.write (S : RS) (n : Int) (bs : List UInt8) : RS := { S with cache := S.cache ++ [(n, bs)] }
def RS.get (S : RS) (n : Int) : List UInt8 := S.cache.foldl (fun out x => if x.1 = n then x.2 else out) (S.sure.getD n.toNat [])
theorem QQ (v : Value) (bs : List UInt8) (w : World) (hv : Bs 0 w.heap.size w v bs) (hb : bs.length ≤ 64) :
 CT 84 #[v] w fun e w' => ∃ r : RB, e = .returned r.val ∧ r.bs = VF bs ∧ Mem w w' [r.ent] := by
 have M := Mem.start w
 obtain ⟨va, vc, rfl, -, -⟩ := hv.form
 have hpl := G5 hb
 refine qI Tryz.func84 9 ?_
 refine gp [[2,1],[4]] ?_; intro a S
 refine Z2 (e := 5) (sz := 1) (by_ := 1) (zc := Ym) S M rfl rfl k_ rfl rfl o_ o_ o_ o_ ?_; intro a w1 bSE S M hB
 try simp only [Int.reduceToNat, Nat.reduceMul] at S M
 refine gp [[0,1],[4,1,1]] ?_; intro a S
 refine Kt (e := 5) (us := Jh bs) S M 0 rfl rfl k_ rfl rfl rfl (M.argW hv) (List.take_of_length_le (by grind [Jh])) (JA _) (by grind [Yz, Jw]) ?_; intro a w2 S M
 replace M := M.s_
 refine gp [[4,1,1],[3],[930]] ?_
 have M4 := M
 rw [Jw, Jeb, KQ] at M4
 have M5 := M4.toRow (sz := 1) (m := (VF bs).length) (cap := 64) (xs := Jh (VF bs)) 0 rfl (by grind [Jw]) o_ d_ (by grind [Jw]) (by grind [Jw])
 refine ⟨⟨bSE, bSE + 1, some ⟨bSE, 0, none⟩, 64, VF bs⟩, ?_, rfl, M5⟩
 grind
theorem R3.open {r : R3} (M : Mem wo w (A ++ r.ents b)) : Mem wo w (.blk b r.cells.toArray 120 :: r.rowS :: r.rowC :: (r.pool.map RB.ent ++ A)) :=
 M.perm List.perm_append_comm
theorem R3.close {r : R3} (M : Mem wo w (.blk b r.cells.toArray 120 :: r.rowS :: r.rowC :: (r.pool.map RB.ent ++ A))) : Mem wo w (A ++ r.ents b) :=
 M.perm (List.perm_append_comm (l₁ := r.ents b))
set_option maxHeartbeats 1000000 in
theorem Jbc {E : List Ent} {S : RS} (n : Int) (va : Option Addr) (vc : Nat) (bs : List UInt8) (hE : R3E b S E) (M : Mem wo w (A ++ E)) (hv : RdH wo A (.slice va bs.length vc) bs) (hc : S.cache.length ≤ 1000) :
 CT 45 #[p_ b, .int .i64 n, .slice va bs.length vc] w fun e w' => ∃ er S' E', e = .returned (.int .i64 er) ∧ R3E b S' E' ∧ Mem wo w' (A ++ E') ∧
  ((er = 0 ∧ (0 ≤ n ∧ n < 34 ∧ bs.length ≤ 64) ∧ S' = S.write n (VF bs)) ∨ (er ≠ 0 ∧ ¬ (0 ≤ n ∧ n < 34 ∧ bs.length ≤ 64) ∧ S' = S)) := by
 have hE0 := hE
 obtain ⟨r, hok, rfl, rfl⟩ := hE
 replace M := R3.open M
 have hcl : r.cache.length ≤ 1000 := by grind [R3.st]
 refine qI Tryz.func45 35 ?_
 refine gq [[2,1],[5,1,1,3,1],[2],[941,10],[6,1,1,1],[940,13]] ?_ ?_
 ·intro a h13 S
  refine gp [[0,0,0,1,1,0,0,0,1],[5,1],[4],[930]] ?_
  grind [R3.close]
 intro a h13 S
 refine gq [[0,1,1,1,1],[940,17]] ?_ ?_
 ·intro a h17 S
  refine gp [[0,0,0,0,1],[5,1],[4],[930]] ?_
  grind [R3.close]
 intro a h17 S
 refine gq [[0,1],[903,5],[0,1,1],[2],[940,21]] ?_ ?_
 ·intro a h21 S
  refine gp [[3,1],[4],[930]] ?_
  grind [R3.close]
 intro a h21 S
 refine go [[4],[910,10,13],[911,0,1,1,1,2,1,1,1]] ?_; intro a w1 S M
 refine k1_ 7 ?_
 refine qD S rfl (QQ (.slice va bs.length vc) bs _ (hv _ (M.sub (.cons _ (.cons _ (.cons _ (List.sublist_append_right _ _)))))) o_) ?_
 rintro _ w2 ⟨q, rfl, hqb, M1⟩; refine rv_ ?_; intro a S; have hK := M1.below; replace M := M.join M1; clear M1
 replace M := M.c_
 refine kH_ hK ?_
 refine Jj 8 S rfl (fun w => JW (ps := [(0, .tmp 27), (1, .tmp 29)]) (pl := VD) (z := [.int .i64 0, .slice none 0 0]) (cs := [_, _]) S k_ rfl (rfl)) ?_; intro a S
 refine k1_ 9 ?_
 refine JG (ps := [(0, .tmp 30)]) (e := 125) (sz := 2) (zl := [.int .i64 0, .slice none 0 0]) (cs := [_, _]) S M rfl rfl k_ rfl (rfl) ?_; intro a w3 bZ S M hB
 refine kH_ hB ?_
 refine k1_ 10 ?_
 refine qP_ (e := 125) (sz := 2) (by_ := 32) (zc := [.int .i64 0, .slice none 0 0]) S M 4 rfl rfl rfl (show Rd _ _ _ 2 _ 1 [Value.int .i64 n, q.val] from M.sliceAt 0 rfl (M.cellsAt (k := 2) 0 rfl rfl) rfl (Nat.le_refl _) (by grind [maxLen])) ?_; intro a w4 vA loA hiA S M
 refine kn_ ?_
 obtain ⟨aA, cA, rfl, -, -⟩ := (M.readAll 0 rfl (by grind [maxLen])).form
 refine go [[911,11,1,2],[914,13,3],[4,1],[3],[930]] ?_; intro w5 M
 replace M := M.od [2, 1, 4, 4]
 replace M := M.drp 4
 have hlen : (r.cache ++ [((n, q) : FdM)]).length = r.cache.length + 1 := by simp
 refine ⟨0, _, _, rfl, ⟨{ r with ca := aA, cc := cA, clo := loA, chi := hiA, cache := r.cache ++ [((n, q) : FdM)], pool := q :: r.pool }, ⟨hok.len, fun x hx => ⟨List.mem_cons_of_mem _ (hok.inS x hx).1, (hok.inS x hx).2⟩, fun x hx => ?_⟩, rfl, rfl⟩, R3.close ?_, .inl ⟨rfl, by omega, ?_⟩⟩
 ·rcases List.mem_append.1 hx with h | h
  ·exact ⟨List.mem_cons_of_mem _ (hok.inC x h).1, (hok.inC x h).2⟩
  grind [G5]
 ·grind [Jgh]
 grind [RS.write, R3.st]
set_option maxHeartbeats 1000000 in
theorem GW {E : List Ent} {S : RS} (n : Int) (hE : R3E b S E) (M : Mem wo w (A ++ E)) (hc : S.cache.length ≤ 1000) (hn : 0 ≤ n ∧ n < 34) :
 CT 162 #[p_ b, .int .i64 n] w fun e w' => ∃ q : RB, e = .returned (.tuple #[q.val, .int .i64 0]) ∧ q.bs = S.get n ∧ q.bs.length = 64 ∧ Mem wo w' (q.ent :: (A ++ E)) := by
 obtain ⟨r, hok, rfl, rfl⟩ := hE
 replace M := R3.open M
 have hcl : r.cache.length ≤ 1000 := by grind [R3.st]
 have hsl := hok.len
 obtain ⟨k, rfl, hk⟩ : ∃ k : Nat, n = (k : Int) ∧ k < 34 := ⟨n.toNat, by omega, by omega⟩
 obtain ⟨q0, hq0⟩ : ∃ q, r.sure[k]? = some q := ⟨_, List.getElem?_eq_getElem o_⟩
 have hq0m := hok.inS q0 (List.mem_of_getElem? hq0)
 refine qI Tryz.func162 54 ?_
 refine gq [[2,1,1],[5,1,1,3,1],[2],[941,11],[6,1,1,1],[940,14]] ?_ ?_
 ·intro a h14 S
  refine gp [[0,0,0,1],[5,1,1],[4],[931]] ?_
  omega
 intro a h14 S
 refine gq [[0,1,1,1],[2],[940,17]] ?_ ?_
 ·intro a h17 S
  refine gp [[3,1,1],[4],[931]] ?_
  omega
 intro a h17 S
 refine gp [[5,1,1,1,1,1],[905,77,1,1]] ?_; intro a S
 refine qY S (Jf S k_ rfl ((M.readAll 1 rfl (by grind [maxLen])).at_.one k (by rw [List.getElem?_map, hq0]; rfl))) ?_
 refine gp [[0,1],[5,1],[3]] ?_; intro a S
 refine Jc (fun m a w' => ∃ (j : Nat) (q : RB), j ≤ r.cache.length ∧ m = r.cache.length - j ∧ (q ∈ r.pool ∧ q.bs.length = 64) ∧ q.bs = ((r.cache.map FdM.pl).take j).foldl (fun out x => if x.1 = (k : Int) then x.2 else out) q0.bs ∧ Jk 54 a [(0, p_ b), (1, .int .i64 (k : Int)), (6, q.val), (7, .int .i64 (j : Int))] ∧ Mem wo w' (.blk b r.cells.toArray 120 :: r.rowS :: r.rowC :: (r.pool.map RB.ent ++ A))) (r.cache.length) ?_ ?_
 ·skip
  exact ⟨0, q0, Nat.zero_le _, rfl, hq0m, rfl, S.sub _ rfl, M⟩
 intro m a wl
 rintro ⟨j, q, hj, rfl, hqm, hqb, S, M⟩
 refine gq [[3,1,1,1,2,1],[904,125,2],[0,1],[2],[943,31]] ?_ ?_
 ·intro a h31 S
  refine gp [[7]] ?_; intro a S
  have hjl : (r.cache.map FdM.pl).take j = r.cache.map FdM.pl := List.take_of_length_le (by grind)
  rw [hjl] at hqb
  refine gp [[1,1]] ?_; intro a S
  refine qD S rfl (QQ q.val q.bs _ (M.readIn (show q.ent ∈ _ from List.mem_cons_of_mem _ (List.mem_cons_of_mem _ (List.mem_cons_of_mem _ (List.mem_append_left _ (List.mem_map_of_mem hqm.1))))) (by grind [maxLen])) o_) ?_
  rintro _ w1 ⟨z, rfl, hz, M1⟩; refine rv_ ?_; intro a S; replace M := M.join M1; clear M1
  replace M := M.c_
  refine gp [[0,1,1],[3],[931]] ?_
  rw [Qa hqm.2] at hz
  refine ⟨z, rfl, ?_, by grind, ?_⟩
  ·grind [RS.get, R3.st]
  ·exact M.perm (List.Perm.cons _ (List.perm_append_comm (l₁ := r.ents b)))
 intro a h31 S
 refine gp [[6]] ?_; intro a S
 have hjl : j < r.cache.length := by omega
 obtain ⟨x, hx⟩ : ∃ x, r.cache[j]? = some x := ⟨_, List.getElem?_eq_getElem hjl⟩
 have hxm := hok.inC x (List.mem_of_getElem? hx)
 have htk : (r.cache.map FdM.pl).take (j + 1) = (r.cache.map FdM.pl).take j ++ [x.pl] := by grind [List.take_add_one]
 refine gp [[1,1,1,2,1,1],[905,125,2,2],[0,1]] ?_; intro a S
 refine qY S (Jf S k_ rfl ((M.readAll 2 rfl (by grind [maxLen])).at_.row (i := j) (KE hx) rfl 0 (show 0 < 2 by omega))) ?_
 refine gq [[0,1,1],[2],[943,43]] ?_ ?_
 ·intro a h43 S
  refine gp [[5,1],[901],[0,1],[2]] ?_; intro a S
  exact ⟨r.cache.length - (j + 1), by omega, j + 1, q, by omega, rfl, hqm, by grind, S.sub _ rfl, M⟩
 intro a h43 S
 refine gp [[2,1,1,2,1,1],[905,125,2,2],[0,2]] ?_; intro a S
 refine qY S (Jf S k_ rfl ((M.readAll 2 rfl (by grind [maxLen])).at_.row (i := j) (KE hx) rfl 1 (show 1 < 2 by omega))) ?_
 refine gp [[0,1],[4,1],[901],[0,1],[2]] ?_; intro a S
 exact ⟨r.cache.length - (j + 1), by omega, j + 1, x.2, by omega, rfl, ⟨hxm.1, hxm.2.1⟩, by rw [htk, List.foldl_append]; grind, S.sub _ rfl, M⟩
end
abbrev RI := Rc × Int
def Ji2 (r : Rc) : List UInt8 := r.enc []
def JgL (r : Rc) : Prop := r.may [] = true ∧ (r.kind = 4 ∨ r.kind = 5 ∨ r.kind = 6)
def frR (q : Int) (p : RI) : FrB := Qj (Ji2 p.1) q p.2 0
def JcD (x : List UInt8) (q K : Int) : Prop := ∀ f ld, yl x = some (f, ld) → f.seq = q → f.inc < K
def Jju (L : List RI) : Nat → Int
 | 0 => 0
 | c + 1 => ((L[c]?).map (·.2)).getD 0
structure Phys (S : DS) (t : Int) (L : List RI) (c : Nat) (inc K : Int) (x : Nat) : Prop where
 len : L.length + x ≤ 24
 le : c ≤ L.length
 t1 : 1 ≤ t ∧ t ≤ 2147483648
 incs : 0 ≤ inc ∧ inc ≤ 1048576
 K0 : 0 ≤ K
 ok : ∀ p ∈ L, JgL p.1 ∧ 0 ≤ p.2 ∧ p.2 ≤ inc
 up : ∀ (i j : Nat) p q, i ≤ j → L[i]? = some p → L[j]? = some q → p.2 ≤ q.2
 old : ∀ (j : Nat) p, j < c → L[j]? = some p → Wq S t j = Jbs (frR (t + (j : Int)) p) ∧ EE S t j = []
 new : ∀ (j : Nat) p, c ≤ j → L[j]? = some p → EE S t j = [Jbs (frR (t + (j : Int)) p)] ∧ p.2 = inc ∧ JcD (Wq S t j) (t + (j : Int)) K
 rest : ∀ j : Nat, L.length ≤ j → j < 24 → EE S t j = [] ∧ JcD (Wq S t j) (t + (j : Int)) (if j < L.length + x then K else 0)
 stop : c < 24 → JcD (Wq S t c) (t + (c : Int)) (Jju L c)
/-! ### what a scan finds -/
def Jh6 : Int → List RI → List FrB
 | _, [] => []
 | q, p :: L => frR q p :: Jh6 (q + 1) L
def Jig : Int → List RI → List (Int × List UInt8)
 | _, [] => []
 | q, p :: L => (q, Ji2 p.1) :: Jig (q + 1) L
def Jj8 : Int → List RI → Int
 | i, [] => i
 | _, p :: L => Jj8 p.2 L
def Gt (su : Su) : Su := { su with gen := 0, tail := 0, owned := 0, inc := 0 }
def tkC (x : Su × List Rc) (r : Rc) : Su × List Rc :=
 if r.kind = 4 then (if 0 ≤ r.cs then x.1.mSet r.cs.toNat r.ct else x.1, Ja3 x.2 r)
 else if r.kind = 5 then (x.1, Ji1 x.2 r.name) else ({ x.1 with bound := r.n }, x.2)
def Jby (x : Su × List Rc) (l : List Rc) : Su × List Rc := l.foldl tkC x
structure CuOk (cu : Su) : Prop where
 zero : Gt cu = cu
 map : cu.mapOk
 bound : 1 ≤ cu.bound ∧ cu.bound ≤ 1048577
structure OpOk (op : List Rc) : Prop where
 ok : ∀ r ∈ op, JgL r ∧ r.kind = 4
 nodup : (op.map (·.name)).Nodup
def Ji9 (r : Rc) : Rc := { r with cs := -1, ct := 0 }
structure LG (s : Ls) (L : List RI) (c : Nat) : Prop where
 run : Jby (Gt s.su, []) (L.map (·.1)) = (s.cu, s.op)
 ends : ∀ (j : Nat) p, c ≤ j → L[j]? = some p → p.1.kind = 5
 cnt : ∀ m, c ≤ m → m ≤ L.length → (Jby (Gt s.su, []) ((L.take m).map (·.1))).2.length = s.op.length + (L.length - m)
 few : s.op.length + (L.length - c) ≤ 8
def Ls.back (s : Ls) (L : List RI) (m : Nat) : Ls := ⟨s.su, (Jby (Gt s.su, []) ((L.take m).map (·.1))).1, s.su.tail + (m : Int), (Jby (Gt s.su, []) ((L.take m).map (·.1))).2⟩
def zer64 : List UInt8 := List.replicate 64 0
theorem Qy : ¬ Yj zer64 := by
 have e : zer64 = List.replicate 60 0 ++ List.replicate 4 0 := rfl
 rw [e, Yl rfl]
 decide +kernel
theorem WC : zer64.length = 64 := rfl
abbrev Jim : Value := .agg #[.int .i64 0, .int .i64 0, .int .i64 0, .int .i64 0, .int .u32 0, .slice none 0 0]
theorem JdB (v : Value) (w : World) (hv : Bs 0 w.heap.size w v zer64) : CQ 235 #[v] w (.tuple #[Jim, .int .i64 40]) := by
 have M := Mem.start w
 have hl := WC
 refine qI Tryz.func235 64 ?_; intro a S
 refine nxD (qN S M Ey ?_); intro a w1 b1 S M hB
 refine gq [[0,1],[5,1],[908,5],[0,1],[2],[940,13]] ?_ ?_
 ·intro a h13 S
  refine cT S (nxD (qB_ Jcg Ex S ?_)); intro a S
  refine go [[900,0],[0,1],[4]] ?_; omega
 intro a h13 S
 refine gp [[5,1]] ?_; intro a S
 refine qD S rfl (D5 v zer64 _ (M.argW hv) o_) ?_
 rintro _ w3 ⟨v4, rfl, hK, -, -⟩; refine rv_ ?_; intro a S; replace M := M.grow hK
 rw [vG Qy] at S
 refine gp [[0,1,1,1,1,1],[5,1,1],[2]] ?_; intro a S
 refine Jm (t := 21) S rfl ?_ ?_
 ·intro h21 S
  cases h21
 intro h21 S
 refine cT S (nxD (qB_ Jcg Ex S ?_)); intro a S
 refine go [[900,0],[0,1],[4]] ?_; intro a w4 S M
 refine Jr S rfl (rA_ 6 0 M) rT_ ?_
 exact ⟨rfl, M.below⟩
abbrev ScZ (tail : Int) (bf bd bT bG bN bR bS b : Nat) (T : List Ent) : List Ent :=
 .blk bf #[.int .i64 tail] 3 :: .blk bd #[p_ b] 75 :: .blk bT #[.func (.func 233) #[p_ bS] #[]] 329 :: .blk bG #[.func (.func 232) #[p_ bS] #[]] 329 :: .blk bS #[.int .i64 tail, .int .i64 0, .slice none 0 0, .slice none 0 0, .int .i64 tail] 250 :: .blk bN #[.int .i64 0] 35 :: .blk bR #[.int .i64 0, .int .i64 0, .slice none 0 0, .slice none 0 0, .int .i64 0] 250 :: T
set_option maxHeartbeats 1000000 in
theorem Jdr {wc w : World} {A E : List Ent} {b : Nat} {S0 : DS} (tail : Int) (hE : DkE b S0 E) (M : Mem wc w (A ++ E)) (hup : S0.down = false) (hw : ∀ k, (S0.cache k).length ≤ 1000000) (ht : 1 ≤ tail ∧ tail ≤ 1099511627776) (hz : Zj S0 tail 0 = zer64) :
 CT 152 #[p_ b, .int .i64 tail] w fun e w' => e = .returned (.tuple #[.agg #[.int .i64 tail, .int .i64 0, .slice none 0 0, .slice none 0 0, .int .i64 tail], .int .i64 0]) ∧ Mem wc w' (A ++ E) := by
 have hx0 : ∃ t, QS S0 tail = zer64 :: t := by
  unfold QS
  obtain ⟨n, hn⟩ : ∃ n, vo tail = n + 1 := ⟨vo tail - 1, by grind [vo]⟩
  rw [hn, List.range_succ_eq_map, List.map_cons, hz]; grind
 obtain ⟨t0, hx0⟩ := hx0
 refine vg Tryz.func152 rfl 60 rfl rfl ?_; intro a S
 refine nxD (qN S M Jgp ?_); intro a w1 bR S M hB
 refine qN S M #[.int .i64 0] ?_; intro a w2 bN S M hB
 refine nxC (wp_scope_straight ?_)
 refine gp [[3,1]] ?_; intro a S
 refine qY S (J9 k_ S rfl) ?_
 refine gp [[8,1]] ?_; intro a S
 refine qK S rfl (EO tail _) M ?_; intro a w3 S hK M
 refine gp [[0,1,1,1,1,1],[3]] ?_; intro a S
 have hpe : plE tail = 0 := by grind [plE]
 rw [hpe] at S
 refine gp [[1,1,1],[2],[941,24],[5,1,1]] ?_; intro a S
 refine qB_ [(0, 1), (1, 1), (2, 1), (3, 1), (4, 1)] [.int .i64 0, .int .i64 0, .slice none 0 0, .slice none 0 0, .int .i64 0] S ?_; intro a S
 refine qN S M Jgp ?_; intro a w4 bS S M hB
 refine go [[900,0],[4]] ?_; intro a w5 S M
 refine qY S (Jx (fs := [.tmp 8]) (cs := []) S rfl rfl) ?_; intro a S
 refine qY S (Jx (fs := [.tmp 8]) (cs := []) S rfl rfl) ?_; intro a S
 refine qN S M #[.nilFunc] ?_; intro a w6 bG S M hB
 refine qN S M #[.nilFunc] ?_; intro a w7 bT S M hB
 refine go [[900,1],[900,0],[3]] ?_; intro a w9 S M
 refine wp_label ?_
 refine gp [[4,1,1]] ?_; intro a S
 refine qD S rfl (EU b tail _) ?_
 rintro _ w10 ⟨bf, bd, rfl, M1⟩; refine rv_ ?_; intro a S; replace M := M.join M1; clear M1
 replace M := M.c_
 replace S := S.keep [0, 1, 4, 5, 16, 7, 24, 8, 9, 10, 33]
 refine nxC (wp_block (JcW (V := Jiw) (xs := QS S0 tail) S M rfl (Ji Tryz.func297 d_ rfl) (DI b bf bd tail S0 hup hw ht) (fun x vs E hV => by obtain ⟨v, lo, hi, rfl, -, -⟩ := hV; rfl) k_ (fun pre Hs => pre = [] ∧ Hs = ScZ tail bf bd bT bG bN bR bS b (A ++ E)) (fun c pre Hs => c = .exit 0 ∧ Hs = ScZ tail bf bd bT bG bN bR bS b (A ++ E)) (⟨rfl, rfl⟩) (fun pre Hs W TT hI M => by obtain ⟨-, rfl⟩ := hI; exact ⟨⟨wc, [], E, hE, M.sub (((List.sublist_append_right A E).trans (List.sublist_append_right [_, _, _, _, _, _, _] _)).trans (List.sublist_append_left _ _))⟩, M.blk 0 rfl, M.blk 1 rfl⟩) ?_ ?_ ?_))
 ·intro lY pre x tX Hs EY vs wr BT a hx hV hI M S
  obtain ⟨v, lo, hi, rfl, rfl, h64⟩ := hV
  obtain ⟨rfl, rfl⟩ := hI
  obtain rfl : x = zer64 := by grind
  simp only [List.cons_append] at M
  simp only [ZF] at S
  refine wpIn_seq ?_
  refine Jq k_ (fun _ _ h => h) ?_
  refine qG [1] S ?_; intro a S
  refine nxC (Jq k_ (fun _ _ h => h) ?_)
  refine gp [[0,1],[2]] ?_; intro a S
  refine ⟨_ :: _ :: _ :: _ :: _ :: _ :: _ :: (A ++ E), M, ?_⟩; intro wb TT M; replace M := M.c_
  refine wpIn_block ?_
  refine wpIn_seq ?_
  refine wpIn_seq ?_
  replace M := M.perm (JaJ [_, _, _, _, _, _, _] _ _ _ _).symm
  replace M := M.c_
  refine Jq k_ (fun _ _ h => h) ?_
  refine gp [[0,1,1],[2],[941,37]] ?_; intro a S
  refine Vc S rfl ?_
  refine wpIn_skip ?_
  refine Jn (wpIn_seq ?_)
  refine Jq k_ (fun _ _ h => h) ?_
  refine qG [1] S ?_; intro a S
  refine qK S rfl (JdB v _ (M.readAll 8 rfl (by grind [maxLen]))) M ?_; intro a w11 S hK M
  refine qG [1, 1, 1] S ?_; intro a S
  refine qN S M Ey ?_; intro a w12 bX S M hB
  refine go [[900,0],[0,1],[2]] ?_; intro a w13 S M
  refine wpIn_seq ?_
  refine Jq k_ (fun _ _ h => h) ?_
  refine gp [[0,1,1,1],[942,47],[0,0,0,0,0,1,1,0,0,0,0,1],[2]] ?_; intro a S
  refine Ya S rfl ?_
  refine wpIn_exit ?_
  refine gp [[1]] ?_; intro a S
  replace M := M.drp 0
  exact ⟨_, M.perm (JaJ [_, _, _, _, _, _, _] _ _ _ _), rfl, rfl⟩
 ·intro D1 wd Hs a hI M S
  obtain ⟨-, rfl⟩ := hI
  refine go [[4],[902,5,5],[900,7],[900,6],[3]] ?_; intro a w15 S M
  refine YK ?_
  refine yR S M 0 rfl ?_; intro a wM S M
  replace M := M.e_
  refine jQ ?_
  refine Jr S rfl (rA_ 5 6 M) (DN k_ rfl (M.cell 5 rfl rfl)) ?_
  skip
  replace M := ((((((M.drp 0).drp 0).drp 0).drp 0).drp 0).drp 0).drp 0
  grind
 intro D1 wd Hs a cX pre x tX hx hX M S
 obtain ⟨rfl, rfl⟩ := hX
 refine go [[5],[902,5,5],[900,7],[900,6],[3]] ?_; intro a w17 S M
 refine YK ?_
 refine yR S M 0 rfl ?_; intro a wM S M
 replace M := M.e_
 refine jQ ?_
 refine Jr S rfl (rA_ 5 6 M) (DN k_ rfl (M.cell 5 rfl rfl)) ?_
 skip
 replace M := ((((((M.drp 0).drp 0).drp 0).drp 0).drp 0).drp 0).drp 0
 grind
theorem Je0 {wc w : World} {A E : List Ent} {b : Nat} {S0 : DS} (tail : Int) (hE : DkE b S0 E) (M : Mem wc w (A ++ E)) (hup : S0.down = false) (hw : ∀ k, (S0.cache k).length ≤ 1000000) (ht : 1 ≤ tail ∧ tail ≤ 1099511627776) (hz : Zj S0 tail 0 = zer64) :
 CT 88 #[p_ b, .int .i64 tail] w fun e w' => e = .returned (.tuple #[.slice none 0 0, .agg #[.int .i64 tail, .int .i64 tail], .int .i64 0]) ∧ Mem wc w' (A ++ E) := by
 refine qI Tryz.func88 38 ?_
 refine gp [[2,1]] ?_; intro a S
 refine qN S M Zy ?_; intro a w1 bL S M hB
 refine gp [[0,1],[4,1,1]] ?_; intro a S
 refine qD S rfl (Jdr (A := _ :: A) tail hE M hup hw ht hz) ?_
 rintro _ w2 ⟨rfl, M2⟩; have M := M2; clear M2
 refine gp [[0,1,1,1]] ?_; intro a S
 refine qN S M Jgp ?_; intro a w3 bSt S M hB
 refine go [[900,0],[0,1],[5,1,1],[2],[941,17],[6,4,1],[903,254],[0,1],[3]] ?_; intro a w4 S M
 refine Jc (fun m a w' => Jk 38 a [(1, .int .i64 tail), (4, .slice none 0 0), (5, p_ bL), (7, p_ bSt), (21, .slice none 0 0), (22, .int .i64 0), (23, .int .i64 0)] ∧ Mem wc w' (.blk bSt #[.int .i64 tail, .int .i64 0, .slice none 0 0, .slice none 0 0, .int .i64 tail] 250 :: .blk bL Zy 97 :: (A ++ E))) (0) ?_ ?_
 ·skip
  exact ⟨S.sub _ rfl, M⟩
 intro m a wl
 rintro ⟨S, M⟩
 refine go [[2,1],[3],[941,24],[7],[910,6],[911,0,1,1,5,1]] ?_; intro a w5 S M
 refine Jj 4 S rfl (fun w => JW (ps := [(0, .tmp 34), (1, .tmp 36)]) (pl := VD) (z := VW) (cs := [_, _]) S k_ rfl (rfl)) ?_
 refine go [[911,5,1],[914,6,1],[911,7,1],[3]] ?_; intro a w6 S M
 refine JY S rfl rT_ (rA_ 2 1 M) rT_ ?_
 skip
 replace M := (M.drp 0).drp 0
 grind
end Go.Proofs.YtocppoflhllelaaGreat
