/-
  What PartStrict rests on, part 30.
-/
import Derived.Test.YtocppoflhllelaaGreatP26
namespace Go.Proofs.YtocppoflhllelaaGreat
open Go.RowKit Go.Sort
section
variable {i : Nat} {sec : Nat → List UInt8}
noncomputable def VT (bs : List UInt8) : Su × Bool := if YD bs 27 = true then (Zv (bs.take 27), decide (Zv (bs.take 27)).may) else (zSu, false)
theorem Jhu {bs : List UInt8} (h : YD bs 27 = false) : VT bs = (zSu, false) := by grind [VT]
theorem Jfi {bs : List UInt8} (h : YD bs 27 = true) : VT bs = (Zv (bs.take 27), decide (Zv (bs.take 27)).may) := by grind [VT]
theorem QG (v : Value) (bs : List UInt8) (w : World) (hv : Bs 0 w.heap.size w v bs) (hb : bs.length = 64) :
 CQ 164 #[v] w (.tuple #[.agg (VT bs).1.cellsL.toArray, .bool (VT bs).2]) := by
 have M := Mem.start w
 have hl27 : (bs.take 27).length = 27 := by grind
 refine qI Tryz.func164 41 ?_; intro a S
 refine nxD (qN S M cz2 ?_); intro a w1 bZ S M hB
 refine gp [[0,1],[4,1]] ?_; intro a S
 refine qD S rfl (Jd0 v bs 27 _ (M.argW hv) o_ o_) ?_
 rintro _ w2 ⟨v2, rfl, hK, hF, hN⟩; have M0 := M; replace M := M.grow hK
 refine gq [[0,1,1,1,1,1],[5,1,1],[2],[940,14]] ?_ ?_
 ·intro a h14 S
  refine cT S (nxD (qB_ zw cz5 S ?_)); intro a S
  refine go [[900,0],[0,1],[4]] ?_; intro a w3 S M
  refine Jr S rfl (rA_ 13 0 M) rT_ ?_
  refine ⟨?_, M.below⟩
  rw [Jhu (by simp_all)]; rfl
 intro a h14 S
 refine gp [[4]] ?_; intro a S
 have hop : YD bs 27 = true := by simp_all
 obtain ⟨lo, hi, -, M1⟩ := M0.pushFresh (hF hop)
 clear M
 have M := M1
 clear M1 M0
 have hb27 : ∀ W, Mem w W (Jd lo hi 5 1 v2 27 (Jh (bs.take 27)) :: [.blk bZ zSu.cellsL.toArray 71]) → Bs 0 W.heap.size W v2 (bs.take 27) := fun W M => by
  unfold Bs; rw [hl27]; exact M.readAll 0 rfl d_
 refine gp [[1,1]] ?_; intro a S
 refine qK S rfl (jL v2 (bs.take 27) 0 6 _ (hb27 _ M) o_ o_) M ?_; intro a w4 S hK M
 refine qG [1] S ?_; intro a S
 refine qK S rfl (jL v2 (bs.take 27) 6 6 _ (hb27 _ M) o_ o_) M ?_; intro a w5 S hK M
 refine qG [1] S ?_; intro a S
 refine qK S rfl (jL v2 (bs.take 27) 12 1 _ (hb27 _ M) o_ o_) M ?_; intro a w6 S hK M
 refine qG [1] S ?_; intro a S
 refine qK S rfl (jL v2 (bs.take 27) 13 3 _ (hb27 _ M) o_ o_) M ?_; intro a w7 S hK M
 refine qG [1] S ?_; intro a S
 refine qK S rfl (jL v2 (bs.take 27) 16 3 _ (hb27 _ M) o_ o_) M ?_; intro a w8 S hK M
 refine qB_ zw cz5 S ?_; intro a S
 refine qN S M cz2 ?_; intro a w9 bX S M hB
 refine go [[900,0],[5,1],[3]] ?_; intro a w10 S M
 refine Jc (fun m a w' => ∃ k : Nat, k ≤ 8 ∧ m = 8 - k ∧ Jk 41 a [(2, p_ bZ), (4, v2), (6, p_ bX), (7, .int .i64 (k : Int))] ∧ Mem w w' (.blk bX (QI (bs.take 27) k).cellsL.toArray 71 :: Jd lo hi 5 1 v2 27 (Jh (bs.take 27)) :: [.blk bZ zSu.cellsL.toArray 71])) (8) ?_ ?_
 ·skip
  exact ⟨0, by omega, rfl, S.sub _ rfl, M⟩
 intro m a wl
 rintro ⟨k, hk, rfl, S, M⟩
 have hb27' : Bs 0 wl.heap.size wl v2 (bs.take 27) := by
  unfold Bs; rw [hl27]; exact M.readAll 1 rfl d_
 refine gq [[3,1,1],[2],[940,28]] ?_ ?_
 ·intro a h28 S
  refine gp [[6,1,1,1],[901]] ?_; intro a S
  rw [show (19 : Int) + (k : Int) = ((19 + k : Nat) : Int) by omega] at S
  refine qK S rfl (jL v2 (bs.take 27) (19 + k) 1 _ hb27' o_ o_) M ?_; intro a w11 S hK M
  refine gp [[0,6],[906,8,1]] ?_; intro a S
  refine Ju (sz := 1) (us := [_]) S M 0 rfl k_ rfl rfl rfl rfl rfl rfl (by (simp; omega)) ?_; intro w12 M
  replace M := M.s_
  refine gp [[4,1],[901],[0,1],[2]] ?_; intro a S
  refine ⟨8 - (k + 1), by omega, k + 1, by omega, rfl, S.sub _ rfl, ?_⟩
  grind [Su.mSet_cell, QH]
 intro a h28 S
 refine gp [[7]] ?_; intro a S
 obtain rfl : k = 8 := by omega
 obtain ⟨s8, hs8⟩ : ∃ s, s = Zv (bs.take 27) := ⟨_, rfl⟩
 rw [WM, ← hs8] at M
 refine go [[910,3],[912,0,0,13],[912,1,0,13]] ?_; intro a w13 S M
 refine k1_ 2 ?_
 refine qK S rfl (Ec s8 _) M ?_; intro a w14 S hK M
 refine kH_ hK ?_
 refine go [[914,3,2],[911,4,1],[3]] ?_; intro a w15 S M
 refine Jr S rfl (rA_ 13 2 M) rT_ ?_
 refine ⟨?_, M.below⟩
 grind [Jfi]
/-! ### the superblock of a disk -/
theorem WL (bs : List UInt8) (k : Nat) : ZO bs k = if (VT bs).2 = true ∧ (VT bs).1.gen % 2 = (k : Int) then some (VT bs).1 else none := by
 grind [ZO, VT]
def su9 : Su := ⟨-1, 0, 0, 0, 0, 0, 0, 0, 0, 0, 0, 0, 0⟩
theorem U5 (bs : List UInt8) : 0 ≤ (VT bs).1.gen := by
 unfold VT; split
 ·exact JaG _
 ·decide
noncomputable def bst (sec : Nat → List UInt8) (i : Nat) : Su := (J7 sec i).getD su9
theorem Jgy (h1 : (VT (sec i)).2 = true) (h2 : (VT (sec i)).1.gen % 2 = (i : Int)) (h3 : (bst sec i).gen < (VT (sec i)).1.gen) : bst sec (i + 1) = (VT (sec i)).1 := by
 grind [bst, J7, WL]
theorem Jgz (h : ¬ ((VT (sec i)).2 = true ∧ (VT (sec i)).1.gen % 2 = (i : Int) ∧ (bst sec i).gen < (VT (sec i)).1.gen)) : bst sec (i + 1) = bst sec i := by
 unfold bst at h ⊢
 rw [J7, WL]
 by_cases h1 : (VT (sec i)).2 = true ∧ (VT (sec i)).1.gen % 2 = (i : Int)
 ·rw [if_pos h1]
  cases hb : J7 sec i with
  | none =>
    rw [hb] at h
    exact absurd ⟨h1.1, h1.2, by have := U5 (sec i); show (-1 : Int) < _; omega⟩ h
  | some y =>
    grind
 grind
theorem Xu {x : Su} {ok : Bool} (hx : (VT (sec i)).1 = x) (hok : (VT (sec i)).2 = ok) (h1 : ok = true) (h2 : x.gen % 2 = (i : Int)) (h3 : (bst sec i).gen < x.gen) : bst sec (i + 1) = x := by
 grind [Jgy]
theorem jR {x : Su} {ok : Bool} (hx : (VT (sec i)).1 = x) (hok : (VT (sec i)).2 = ok) (h : ¬ (ok = true ∧ x.gen % 2 = (i : Int) ∧ (bst sec i).gen < x.gen)) : bst sec (i + 1) = bst sec i := by
 grind [Jgz]
def YE (sec : Nat → List UInt8) : Nat → Bool
 | 0 => true
 | n + 1 => YE sec n && JB (sec n)
theorem JhY (h : YE sec 2 = true) (hl : ∀ j, j < 2 → (sec j).length = 64) : gsR sec = (Y6, 0) := by
 grind [YE, gsR, J7, GP]
theorem JiU (h : YE sec 2 = false) (hb : (bst sec 2).gen < 0) : gsR sec = (zSu, 40) := by
 simp only [YE, Bool.true_and] at h
 unfold gsR
 unfold bst at hb
 cases hx : J7 sec 2 with
 | none => grind
 | some x => rw [hx] at hb; have := (ze hx).2.1; grind
theorem Jjw (hb : ¬ (bst sec 2).gen < 0) : gsR sec = (bst sec 2, 0) := by
 unfold bst at hb ⊢
 unfold gsR
 cases hx : J7 sec 2 with
 | none => rw [hx] at hb; exact absurd d_ hb
 | some x => rfl
def Vx (S0 : RS) (i : Nat) : List UInt8 := S0.get (i : Int)
theorem Jgb {wo w : World} {A E : List Ent} {b : Nat} {S0 : RS} (hE : R3E b S0 E) (M : Mem wo w (A ++ E)) (hc : S0.cache.length ≤ 1000) :
 CT 91 #[p_ b] w fun e w' => e = .returned (.tuple #[.agg (gsR (Vx S0)).1.cellsL.toArray, .int .i64 (gsR (Vx S0)).2]) ∧ Mem wo w' (A ++ E) ∧ ∀ j, j < 2 → (Vx S0 j).length = 64 := by
 refine qI Tryz.func91 59 ?_; intro a S
 refine nxD (qN S M cz2 ?_); intro a w1 bZ S M hB
 refine qG [1] S ?_; intro a S
 refine nxA (qB_ zw cz5 S ?_); intro a S
 refine qN S M cz2 ?_; intro a w2 bB S M hB
 refine go [[900,0],[4,1],[5,1],[3]] ?_; intro a w3 S M
 refine Jc (fun m a w' => ∃ (i : Nat) (y : Su), i ≤ 2 ∧ m = 2 - i ∧ y = bst (Vx S0) i ∧ (∀ j, j < i → (Vx S0 j).length = 64) ∧ Jk 59 a [(0, p_ b), (2, p_ bZ), (4, p_ bB), (5, .bool (YE (Vx S0) i)), (6, .int .i64 (i : Int))] ∧ Mem wo w' (.blk bB y.cellsL.toArray 71 :: .blk bZ zSu.cellsL.toArray 71 :: (A ++ E))) (2) ?_ ?_
 ·skip
  exact ⟨0, su9, by omega, rfl, rfl, fun j h => absurd h o_, S.sub _ rfl, M⟩
 intro m a wl
 rintro ⟨i, y, hi, rfl, hy, h64, S, M⟩
 refine gq [[3,1,1],[2],[943,13]] ?_ ?_
 ·intro a h13 S
  refine gq [[9,1],[2],[940,52]] ?_ ?_
  ·intro a h52 S
   refine cT S (nxD (qK S rfl (UJ _) M ?_)); intro a w14 S hK M
   refine go [[900,1],[0,1],[4]] ?_; intro a w15 S M
   refine Jr S rfl (rA_ 13 1 M) rT_ ?_
   obtain rfl : i = 2 := by omega
   refine ⟨?_, M.sub (.cons _ (.cons _ (List.Sublist.refl _))), h64⟩
   grind [JhY]
  intro a h52 S
  refine gq [[6,1,1,1],[2],[943,56]] ?_ ?_
  ·intro a h56 S
   refine go [[5],[902,0,13],[900,1],[0,1],[3]] ?_; intro a w17 S M
   refine Jr S rfl (rA_ 13 1 M) rT_ ?_
   obtain rfl : i = 2 := by omega
   refine ⟨?_, M.sub (.cons _ (.cons _ (List.Sublist.refl _))), h64⟩
   grind [Jjw]
  intro a h56 S
  refine cT S (nxD (qB_ zw cz5 S ?_)); intro a S
  refine go [[900,1],[0,1],[4]] ?_; intro a w16 S M
  refine Jr S rfl (rA_ 13 1 M) rT_ ?_
  obtain rfl : i = 2 := by omega
  refine ⟨?_, M.sub (.cons _ (.cons _ (List.Sublist.refl _))), h64⟩
  (rw [JiU (sec := Vx S0) o_ (by grind)]; first | done | rfl)
 intro a h13 S
 refine gp [[7,1,1]] ?_; intro a S
 refine qD S rfl (GW (A := _ :: _ :: A) (i : Int) hE M hc o_) ?_
 rintro _ w4 ⟨q, rfl, hqb, hq64, M1⟩; refine rv_ ?_; intro a S
 have hqx : q.bs = Vx S0 i := hqb
 clear M
 have M : Mem wo w4 (q.ent :: .blk bB y.cellsL.toArray 71 :: .blk bZ zSu.cellsL.toArray 71 :: (A ++ E)) := M1
 clear M1
 refine gq [[0,1,1,1,1,1],[5,1,1],[2],[941,23],[5,1,1],[943,27]] ?_ ?_
 ·intro a h27 S
  refine gp [[0,0,0,1,1],[4,1]] ?_; intro a S
  refine qK S rfl (QG q.val q.bs _ (M.readAll 0 rfl (by grind [maxLen])) hq64) M ?_; intro a w10 S hK M
  have hnn := U5 q.bs
  obtain ⟨x, hx⟩ : ∃ x, (VT q.bs).1 = x := ⟨_, rfl⟩
  obtain ⟨ok, hok⟩ : ∃ ok, (VT q.bs).2 = ok := ⟨_, rfl⟩
  rw [hx] at hnn
  rw [hx, hok] at S
  refine qG [1, 1, 1] S ?_; intro a S
  refine qN S M cz2 ?_; intro a w11 bX S M hB
  refine gi [[900,0],[0,1],[4,1,1],[943,37]] ?_ ?_
  ·intro a w12 h37 S M
   refine gp [[0,0,0,0,0,0,1,1,0,0,0,0,0,1],[7,1],[901],[0,1],[2]] ?_; intro a S
   replace M := M.od [3, 3]
   replace M := (M.drp 2).drp 2
   have hs6 : ∀ j, j < i + 1 → (Vx S0 j).length = 64 := fun j hj => by
    grind
   rw [hqx] at hx hok
   have hA : YE (Vx S0) (i + 1) = (YE (Vx S0) i && JB q.bs) := by rw [hqx]; rfl
   rw [h27] at hA
   simp only [Bool.false_and] at hA
   exact ⟨2 - (i + 1), by omega, i + 1, y, by omega, rfl, hy.trans (jR hx hok (by grind)).symm, hs6, by rw [hA]; exact S.sub _ rfl, M⟩
  intro a w12 h37 S M
  refine gp [[0,1,1]] ?_; intro a S
  (refine qY S (yw S rfl rfl o_) ?_); intro a S
  refine gq [[0,1,1,1,1],[943,44]] ?_ ?_
  ·intro a h44 S
   refine gp [[0,0,0,0,0,0,1],[7,1],[901],[0,1],[2]] ?_; intro a S
   replace M := M.od [3, 3]
   replace M := (M.drp 2).drp 2
   have hs6 : ∀ j, j < i + 1 → (Vx S0 j).length = 64 := fun j hj => by
    grind
   rw [hqx] at hx hok
   have hA : YE (Vx S0) (i + 1) = (YE (Vx S0) i && JB q.bs) := by rw [hqx]; rfl
   rw [h27] at hA
   simp only [Bool.false_and] at hA
   exact ⟨2 - (i + 1), by omega, i + 1, y, by omega, rfl, hy.trans (jR hx hok o_).symm, hs6, by rw [hA]; exact S.sub _ rfl, M⟩
  intro a h44 S
  refine gq [[0,1,1,1,3,1,1],[2],[943,50]] ?_ ?_
  ·intro a h50 S
   refine gp [[5,1],[901],[0,1],[2]] ?_; intro a S
   replace M := M.od [3, 3]
   replace M := (M.drp 2).drp 2
   have hs6 : ∀ j, j < i + 1 → (Vx S0 j).length = 64 := fun j hj => by
    grind
   rw [hqx] at hx hok
   have hA : YE (Vx S0) (i + 1) = (YE (Vx S0) i && JB q.bs) := by rw [hqx]; rfl
   rw [h27] at hA
   simp only [Bool.false_and] at hA
   exact ⟨2 - (i + 1), by omega, i + 1, y, by omega, rfl, hy.trans (jR hx hok (by grind)).symm, hs6, by rw [hA]; exact S.sub _ rfl, M⟩
  intro a h50 S
  refine go [[2],[902,0,13],[900,2],[4,1],[901],[0,1],[2]] ?_; intro a w13 S M
  replace M := M.od [3, 3]
  replace M := (M.drp 2).drp 2
  have hs6 : ∀ j, j < i + 1 → (Vx S0 j).length = 64 := fun j hj => by
   grind
  rw [hqx] at hx hok
  have hA : YE (Vx S0) (i + 1) = (YE (Vx S0) i && JB q.bs) := by rw [hqx]; rfl
  rw [h27] at hA
  simp only [Bool.false_and] at hA
  exact ⟨2 - (i + 1), by omega, i + 1, x, by omega, rfl, (Xu hx hok o_ o_ (by grind)).symm, hs6, by rw [hA]; exact S.sub _ rfl, M⟩
 intro a h27 S
 refine qG [1] S ?_; intro a S
 refine qK S rfl (Gq q.val q.bs _ (M.readAll 0 rfl (by grind [maxLen]))) M ?_; intro a w5 S hK M
 refine gp [[0,1,1],[4,1]] ?_; intro a S
 refine qK S rfl (QG q.val q.bs _ (M.readAll 0 rfl (by grind [maxLen])) hq64) M ?_; intro a w6 S hK M
 have hnn := U5 q.bs
 obtain ⟨x, hx⟩ : ∃ x, (VT q.bs).1 = x := ⟨_, rfl⟩
 obtain ⟨ok, hok⟩ : ∃ ok, (VT q.bs).2 = ok := ⟨_, rfl⟩
 rw [hx] at hnn
 rw [hx, hok] at S
 refine qG [1, 1, 1] S ?_; intro a S
 refine qN S M cz2 ?_; intro a w7 bX S M hB
 refine gi [[900,0],[0,1],[4,1,1],[943,37]] ?_ ?_
 ·intro a w8 h37 S M
  refine gp [[0,0,0,0,0,0,1,1,0,0,0,0,0,1],[7,1],[901],[0,1],[2]] ?_; intro a S
  replace M := M.od [3, 3]
  replace M := (M.drp 2).drp 2
  have hs6 : ∀ j, j < i + 1 → (Vx S0 j).length = 64 := fun j hj => by
   grind
  rw [hqx] at hx hok
  have hA : YE (Vx S0) (i + 1) = (YE (Vx S0) i && JB q.bs) := by rw [hqx]; rfl
  rw [h27] at hA
  simp only [Bool.true_and] at hA
  exact ⟨2 - (i + 1), by omega, i + 1, y, by omega, rfl, hy.trans (jR hx hok (by grind)).symm, hs6, by rw [hA]; exact S.sub _ rfl, M⟩
 intro a w8 h37 S M
 refine gp [[0,1,1]] ?_; intro a S
 (refine qY S (yw S rfl rfl o_) ?_); intro a S
 refine gq [[0,1,1,1,1],[943,44]] ?_ ?_
 ·intro a h44 S
  refine gp [[0,0,0,0,0,0,1],[7,1],[901],[0,1],[2]] ?_; intro a S
  replace M := M.od [3, 3]
  replace M := (M.drp 2).drp 2
  have hs6 : ∀ j, j < i + 1 → (Vx S0 j).length = 64 := fun j hj => by
   rcases Nat.lt_or_ge j i with h | h
   ·exact h64 j h
   ·obtain rfl : j = i := by omega
    rw [← hqx]; exact hq64
  rw [hqx] at hx hok
  have hA : YE (Vx S0) (i + 1) = (YE (Vx S0) i && JB q.bs) := by rw [hqx]; rfl
  rw [h27] at hA
  simp only [Bool.true_and] at hA
  exact ⟨2 - (i + 1), by omega, i + 1, y, by omega, rfl, hy.trans (jR hx hok (by rw [← hy]; rintro ⟨a1, a2, a3⟩; first | omega | simp_all)).symm, hs6, by rw [hA]; exact S.sub _ rfl, M⟩
 intro a h44 S
 refine gq [[0,1,1,1,3,1,1],[2],[943,50]] ?_ ?_
 ·intro a h50 S
  refine gp [[5,1],[901],[0,1],[2]] ?_; intro a S
  replace M := M.od [3, 3]
  replace M := (M.drp 2).drp 2
  have hs6 : ∀ j, j < i + 1 → (Vx S0 j).length = 64 := fun j hj => by
   rcases Nat.lt_or_ge j i with h | h
   ·exact h64 j h
   ·obtain rfl : j = i := by omega
    rw [← hqx]; exact hq64
  rw [hqx] at hx hok
  have hA : YE (Vx S0) (i + 1) = (YE (Vx S0) i && JB q.bs) := by rw [hqx]; rfl
  rw [h27] at hA
  simp only [Bool.true_and] at hA
  exact ⟨2 - (i + 1), by omega, i + 1, y, by omega, rfl, hy.trans (jR hx hok (by rw [← hy]; rintro ⟨a1, a2, a3⟩; first | omega | simp_all)).symm, hs6, by rw [hA]; exact S.sub _ rfl, M⟩
 intro a h50 S
 refine go [[2],[902,0,13],[900,2],[4,1],[901],[0,1],[2]] ?_; intro a w9 S M
 replace M := M.od [3, 3]
 replace M := (M.drp 2).drp 2
 have hs6 : ∀ j, j < i + 1 → (Vx S0 j).length = 64 := fun j hj => by
  rcases Nat.lt_or_ge j i with h | h
  ·exact h64 j h
  ·obtain rfl : j = i := by omega
   rw [← hqx]; exact hq64
 rw [hqx] at hx hok
 have hA : YE (Vx S0) (i + 1) = (YE (Vx S0) i && JB q.bs) := by rw [hqx]; rfl
 rw [h27] at hA
 simp only [Bool.true_and] at hA
 exact ⟨2 - (i + 1), by omega, i + 1, x, by omega, rfl, (Xu hx hok a_ o_ (by rw [← hy]; omega)).symm, hs6, by rw [hA]; exact S.sub _ rfl, M⟩
end
theorem Jed (n : Int) (k : Nat) : leB n (k + 1) = leB n k ++ [V4 (n / 2 ^ ((8 : Int) * (k : Int)).toNat)] := by
 have e : (2 : Int) ^ ((8 : Int) * (k : Int)).toNat = 256 ^ k := by
  rw [show ((8 : Int) * (k : Int)).toNat = 8 * k by omega, Int.pow_mul]; rfl
 grind [leB, List.range_succ]
theorem Zt {wc w : World} {H : List Ent} {lo hi : Nat} {va : Option Addr} {vc : Nat} {xs : List UInt8} (M : Mem wc w (Jd lo hi 5 1 (.slice va xs.length vc) xs.length (Jh xs) :: H)) (n : Int) (k : Nat) (_ : 0 ≤ n) (hk : k ≤ 6) (hx : xs.length ≤ 1000) :
 CT 44 #[.slice va xs.length vc, .int .i64 n, .int .i64 (k : Int)] w fun e w' => ∃ (va' : Option Addr) (vc' lo' hi' : Nat) (ys : List UInt8), e = .returned (.slice va' ys.length vc') ∧ ys = xs ++ leB n k ∧ Mem wc w' (Jd lo' hi' 5 1 (.slice va' ys.length vc') ys.length (Jh ys) :: H) := by
 refine qI Tryz.func44 23 ?_
 refine gp [[2,1],[5,1],[3]] ?_; intro a S
 refine Jc (fun m a w' => ∃ (j lo hi : Nat) (va : Option Addr) (vc : Nat) (ys : List UInt8), j ≤ k ∧ m = k - j ∧ ys = xs ++ leB n j ∧ Jk 23 a [(0, .slice va ys.length vc), (1, .int .i64 n), (2, .int .i64 (k : Int)), (7, .int .i64 (j : Int))] ∧ Mem wc w' (Jd lo hi 5 1 (.slice va ys.length vc) ys.length (Jh ys) :: H)) (k) ?_ ?_
 ·skip
  exact ⟨0, lo, hi, va, vc, xs, Nat.zero_le _, rfl, (List.append_nil _).symm, S.sub _ rfl, M⟩
 intro m a wl
 rintro ⟨j, lo, hi, va, vc, ys, hj, rfl, hye, S, M⟩
 have hys : ys.length = xs.length + j := by grind [Jl]
 refine gq [[3,1,1,1],[2],[943,10]] ?_ ?_
 ·intro a h10 S
  refine gp [[8,1,1],[3],[930]] ?_
  grind
 intro a h10 S
 refine gp [[6,1,1,1],[901]] ?_; intro a S
 refine qY S (U3 S rfl k_ k_ o_) ?_; intro a S
 (refine qY S (QA S rfl rfl o_) ?_); intro a S
 refine qY S (Zg S rfl k_ k_) ?_; intro a S
 refine JG (ps := [(0, .tmp 19)]) (e := 5) (sz := 1) (zl := Ym) (cs := [_]) S M rfl rfl k_ rfl (rfl) ?_; intro a w1 bD S M hB
 refine JI (e := 5) (sz := 1) (by_ := 1) (zc := Ym) S M 1 rfl rfl k_ rfl d_ rfl rfl rfl (Rd.of_blk (sz := 1) (xs := Jh [V4 (n / 2 ^ ((8 : Int) * (j : Int)).toNat)]) (M.blk 0 rfl) rfl (Nat.le_refl _) (by grind [maxLen]) rfl) (JA _) o_ (by grind [maxLen]) ?_; intro a w2 vA loA hiA S M
 obtain ⟨aA, cA, rfl, -, -⟩ := (M.readAll 0 rfl (by grind [maxLen])).form
 refine qY S (JP S rfl) ?_
 refine gp [[4,1],[901],[0,1],[2]] ?_; intro a S
 replace M := M.drp 1
 refine ⟨k - (j + 1), by omega, j + 1, loA, hiA, aA, cA, ys ++ [V4 (n / 2 ^ ((8 : Int) * (j : Int)).toNat)], by omega, rfl, by grind [Jed], ?_, ?_⟩
 ·rw [List.length_append]; exact S.sub _ rfl
 grind [Vv]
def Jjf (S S' : RS) : Prop := S'.sure = S.sure ∧ ∃ l, S'.cache = S.cache ++ l ∧ ∀ x ∈ l, (0 ≤ x.1 ∧ x.1 < 26) ∧ x.2.length = 64
def JkM (wo : World) (A : List Ent) (b : Nat) (S : RS) (e : Ending) (w' : World) : Prop := ∃ (er : Int) (S' : RS) (E' : List Ent), e = .returned (.int .i64 er) ∧ R3E b S' E' ∧ Mem wo w' (A ++ E') ∧ Jjf S S' ∧ S'.cache.length ≤ S.cache.length + 1
set_option maxHeartbeats 2000000 in
theorem JdP {wo w : World} {A E : List Ent} {b : Nat} {S0 : RS} (s : Su) (hE : R3E b S0 E) (M : Mem wo w (A ++ E)) (hc : S0.cache.length ≤ 900) (hm : s.may) :
 CT 17 #[p_ b, .agg s.cellsL.toArray] w fun e w' => ∃ E', e = .returned (.int .i64 0) ∧ R3E b (S0.write (s.gen % 2) (VN s)) E' ∧ Mem wo w' (A ++ E') := by
 obtain ⟨hmm, h1, h2, h3, h4, h5, h6, h7, h8, h9, h10⟩ := id hm
 refine qI Tryz.func17 47 ?_; intro a S
 refine nxD (qW_ S M ?_); intro a w1 bB S M hB
 refine gp [[0,1],[5],[902,0,13]] ?_; intro a S
 refine qK S rfl (Ec s _) M ?_; intro a w2 S hK M
 refine gq [[0,1],[2],[940,9]] ?_ ?_
 ·intro a h9 S
  refine gp [[3,1],[4],[930]] ?_
  grind
 intro a h9 S
 refine gp [[5,1],[3]] ?_; intro a S
 replace M := M.rowNil 5 1
 obtain ⟨ya, yc, ylo, yhi, ys, hys, hS0, M1⟩ : ∃ (ya : Option Addr) (yc ylo yhi : Nat) (ys : List UInt8), ys = [] ∧ Value.slice none 0 0 = Value.slice ya ys.length yc ∧ Mem wo w2 (Jd ylo yhi 5 1 (.slice ya ys.length yc) ys.length (Jh ys) :: .blk bB s.cellsL.toArray 71 :: (A ++ E)) := ⟨none, 0, _, _, [], rfl, rfl, M⟩
 rw [hS0] at S
 clear M hS0; have M := M1; clear M1
 have hyl : ys.length = 0 := by grind
 refine gp [[1,1,1,2]] ?_; intro a S
 refine qD S rfl (Zt M s.gen 6 o_ o_ o_) ?_
 rintro _ w3 ⟨ya, yc, ylo, yhi, y1, rfl, e1, M1⟩; refine rv_ ?_; intro a S; have M := M1; clear M1
 have f1 : y1.length = 6 := by grind [Jl]
 refine gp [[0,1],[4,1,2,2]] ?_; intro a S
 refine qD S rfl (Zt M s.tail 6 o_ o_ o_) ?_
 rintro _ w4 ⟨ya, yc, ylo, yhi, y2, rfl, e2, M1⟩; refine rv_ ?_; intro a S; have M := M1; clear M1
 have f2 : y2.length = 12 := by grind [Jl]
 refine gp [[0,1],[4,1,3,2]] ?_; intro a S
 refine qD S rfl (Zt M s.owned 1 o_ o_ o_) ?_
 rintro _ w5 ⟨ya, yc, ylo, yhi, y3, rfl, e3, M1⟩; refine rv_ ?_; intro a S; have M := M1; clear M1
 have f3 : y3.length = 13 := by grind [Jl]
 refine gp [[0,1],[4,1,4,2]] ?_; intro a S
 refine qD S rfl (Zt M s.inc 3 o_ o_ o_) ?_
 rintro _ w6 ⟨ya, yc, ylo, yhi, y4, rfl, e4, M1⟩; refine rv_ ?_; intro a S; have M := M1; clear M1
 have f4 : y4.length = 16 := by grind [Jl]
 refine gp [[0,1],[4,1,5,2]] ?_; intro a S
 refine qD S rfl (Zt M s.bound 3 o_ o_ o_) ?_
 rintro _ w7 ⟨ya, yc, ylo, yhi, y5, rfl, e5, M1⟩; refine rv_ ?_; intro a S; have M := M1; clear M1
 have f5 : y5.length = 19 := by grind [Jl]
 refine gp [[0,1],[5,1],[3]] ?_; intro a S
 refine Jc (fun m a w' => ∃ (i ylo yhi : Nat) (ya : Option Addr) (yc : Nat) (ys : List UInt8), i ≤ 8 ∧ m = 8 - i ∧ ys = Vy (s.nums.take (5 + i)) ∧ Jk 47 a [(0, p_ b), (3, p_ bB), (5, .slice ya ys.length yc), (6, .int .i64 (i : Int))] ∧ Mem wo w' (Jd ylo yhi 5 1 (.slice ya ys.length yc) ys.length (Jh ys) :: .blk bB s.cellsL.toArray 71 :: (A ++ E))) (8) ?_ ?_
 ·skip
  exact ⟨0, _, _, ya, yc, y5, by omega, rfl, by grind [Vy, Su.nums], S.sub _ rfl, M⟩
 intro m a wl
 rintro ⟨i, ylo, yhi, ya, yc, ys, hi, rfl, hye, S, M⟩
 have hys : ys.length = 19 + i := by
  have h9 : i = 0 ∨ i = 1 ∨ i = 2 ∨ i = 3 ∨ i = 4 ∨ i = 5 ∨ i = 6 ∨ i = 7 ∨ i = 8 := by omega
  rw [hye, y6]; rcases h9 with rfl | rfl | rfl | rfl | rfl | rfl | rfl | rfl | rfl <;> rfl
 refine gq [[3,1,1],[2],[940,31]] ?_ ?_
 ·intro a h31 S
  refine gp [[6,1,1,6],[906,8,1]] ?_; intro a S
  refine qY S (Jf S k_ rfl (M.cell 1 rfl (s.mAt_cell o_))) ?_; intro a S
  refine qD S rfl (Zt M (s.mAt i) 1 (hmm i o_).1 o_ o_) ?_
  rintro _ w8 ⟨ya, yc, ylo, yhi, zs, rfl, hzs, M1⟩; have M := M1; clear M1
  refine gp [[0,1],[4,1],[901],[0,1],[2]] ?_; intro a S
  refine ⟨8 - (i + 1), by omega, i + 1, _, _, ya, yc, zs, by omega, rfl, ?_, S.sub _ rfl, M⟩
  rw [hzs, hye]
  have h9 : i = 0 ∨ i = 1 ∨ i = 2 ∨ i = 3 ∨ i = 4 ∨ i = 5 ∨ i = 6 ∨ i = 7 := by omega
  rcases h9 with rfl | rfl | rfl | rfl | rfl | rfl | rfl | rfl <;> simp [Vy, Su.nums, Su.mAt]
 intro a h31 S
 refine go [[7],[910,6],[911,0,1,1,2]] ?_; intro a w9 S M
 (refine Jj 3 S rfl (fun w => yw S rfl rfl o_) ?_); intro a S
 refine kP 4 S ?_; intro a S
 refine k1_ 5 ?_
 refine qD S rfl (EX (.slice ya ys.length yc) ys _ (M.readAll 0 rfl (by grind [maxLen])) o_) ?_
 rintro _ w10 ⟨v4, rfl, hF⟩; refine rv_ ?_; intro a S
 obtain ⟨lo4, hi4, -, M4⟩ := (Mem.start _).pushFresh hF
 have hK := M4.below
 replace M := M.join M4
 clear M4 hF
 have hsl : (VQ ys).length = 31 := by unfold VQ; rw [List.length_append]; show _ + 4 = _; omega
 obtain rfl : i = 8 := by omega
 have hze : VF (VQ ys) = VN s := by unfold VF VN GQ; rw [hsl, hye]; rfl
 generalize VQ ys = zs at M hsl hze
 obtain ⟨za, zc, rfl, -, -⟩ := (M.readAll 0 rfl m_).form
 replace M := M.c_
 refine kH_ hK ?_
 refine k1_ 6 ?_
 refine qD S rfl (Jbc (A := _ :: _ :: _ :: A) (s.gen % 2) za zc zs hE M (fun W M => M.readAll 0 rfl m_) o_) ?_
 rintro _ w11 ⟨er2, S2, E2, rfl, hE2, M2, hS2⟩; refine rv_ ?_; intro a S; have M := M2; clear M2
 replace M := M.c_
 obtain ⟨rfl, rfl⟩ : er2 = 0 ∧ S2 = S0.write (s.gen % 2) (VN s) := by
  rcases hS2 with ⟨h, -, h2⟩ | ⟨-, h, -⟩
  ·exact ⟨h, by rw [h2, hze]⟩
  ·exact absurd ⟨by omega, by omega, by omega⟩ h
 refine kn_ ?_
 refine gp [[911,7,1],[3],[930]] ?_
 exact ⟨E2, rfl, hE2, ((M.drop 0).drop 0).drop 0⟩
def Jkt (xs : List (List UInt8)) : Bool := decide (40 < xs.length) || xs.any fun b => decide (1000 < b.length)
/-! ### a disk's sectors Jjb a flush -/
theorem Ja0 : ∀ {l : List (List UInt8)} {k : Nat} {b : List UInt8}, (∀ x ∈ l, x.length = 64) → l[k]? = some b → (l.flatten.drop (k * 64)).take 64 = b
 | [], k, b, _, h => by grind
 | x :: l, 0, b, h64, h => by
   grind
 | x :: l, k + 1, b, h64, h => by
   have := h64 x (List.mem_cons_self ..)
   rw [List.flatten_cons, show (k + 1) * 64 = x.length + k * 64 by omega, List.drop_append, List.drop_of_length_le o_, List.nil_append, show x.length + k * 64 - x.length = k * 64 by omega]
   exact Ja0 (fun y hy => h64 y (List.mem_cons_of_mem _ hy)) (by grind)
theorem UH : ∀ {l : List (List UInt8)}, (∀ x ∈ l, x.length = 64) → l.flatten.length = l.length * 64
 | [], _ => rfl
 | x :: l, h64 => by
   have := h64 x (List.mem_cons_self ..)
   rw [List.flatten_cons, List.length_append, UH (fun y hy => h64 y (List.mem_cons_of_mem _ hy)), List.length_cons]
   omega
structure Sect (l : List (List UInt8)) : Prop where
 len : l.length = 34
 all : ∀ b ∈ l, b.length = 64
 home : ∀ k, k < 8 → JB (l.getD (26 + k) []) = true
structure Cop (l : List (List UInt8)) (k : Nat) (S : DS) : Prop where
 up : S.down = false
 few : ∀ z, (S.cache z).length ≤ 1
 nxt : ∀ z : Nat, k ≤ z → S.cache (z : Int) = []
 got : ∀ z : Nat, z < k → S.get z = l.getD z []
structure Twin (S : DS) (R : RS) : Prop where
 up : S.down = false
 still : ∀ z, S.cache z = []
 cache : R.cache = []
 sect : Sect R.sure
 got : ∀ z : Nat, z < 34 → S.get z = R.get (z : Int)
def JkK (w : World) (e : Ending) (w' : World) : Prop := ∃ (b bR : Nat) (S : DS) (R : RS) (E E1 : List Ent), e = .returned (.tuple #[p_ b, p_ bR, .bool true]) ∧ DkE b S E ∧ R3E bR R E1 ∧ Mem w w' (E1 ++ E) ∧ Twin S R
end Go.Proofs.YtocppoflhllelaaGreat
