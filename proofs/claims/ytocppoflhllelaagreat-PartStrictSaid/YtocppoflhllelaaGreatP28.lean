/-
  What PartStrict rests on, part 28.
-/
import Derived.Test.YtocppoflhllelaaGreatP27
namespace Go.Proofs.YtocppoflhllelaaGreat
open Go.RowKit Go.Sort
section
variable {F : List Ent} {cs : List Value} {b2 b3 j : Nat} {ps : Pl}
abbrev pB (b : Nat) : Value := p_ b
def stepV (b2 b3 : Nat) (ps : Pl) (cs : List Value) (F : List Ent) (j : Nat) (v : Value) : Prop :=
 if j < 8 then ∃ bj, v = .func (.func 319) #[] #[pB bj, pB b2, pB b3] ∧ Ent.blk bj #[.int .i64 (j : Int)] 3 ∈ F
 else if j = 8 then v = .func (.func 318) #[] #[pB b2]
 else match ps[j - 9]? with
  | some _ => ∃ bj, v = .func (.func 321) #[] #[pB bj, pB b2, pB b3] ∧ Ent.blk bj ((cs.drop ((j - 9) * 6)).take 6).toArray 57 ∈ F
  | none => if j = 10 + ps.length then v = .func (.func 322) #[] #[pB b2, pB b3] else v = .func (.func 318) #[] #[pB b2]
theorem stepV.mono {F2 : List Ent} {v : Value} (h : stepV b2 b3 ps cs F j v) (hs : ∀ e ∈ F, e ∈ F2) : stepV b2 b3 ps cs F2 j v := by
 grind [stepV]
structure StepsBk (b2 b3 : Nat) (ps : Pl) (cs : List Value) (F : List Ent) (n : Nat) (fc : List Value) : Prop where
 len : fc.length = n
 get : ∀ (j : Nat) (v : Value), fc[j]? = some v → stepV b2 b3 ps cs F j v
theorem StepsBk.nil (b2 b3 : Nat) (ps : Pl) (cs : List Value) (F : List Ent) : StepsBk b2 b3 ps cs F 0 [] := ⟨rfl, fun j v h => by grind⟩
theorem StepsBk.snoc {F2 : List Ent} {n : Nat} {fc : List Value} {v : Value} (h : StepsBk b2 b3 ps cs F n fc) (hs : ∀ e ∈ F, e ∈ F2) (hv : stepV b2 b3 ps cs F2 n v) : StepsBk b2 b3 ps cs F2 (n + 1) (fc ++ [v]) := by
 refine ⟨by rw [List.length_append, h.len]; rfl, fun j u hu => ?_⟩
 rcases Nat.lt_or_ge j fc.length with h1 | h1
 ·rw [List.getElem?_append_left h1] at hu
  exact (h.get j u hu).mono hs
 ·have h2 := (List.getElem?_eq_some_iff.1 hu).1
  rw [List.length_append, List.length_singleton] at h2
  obtain rfl : j = fc.length := by omega
  rw [List.getElem?_append_right (Nat.le_refl _), Nat.sub_self] at hu
  cases hu
  rw [h.len]; exact hv
theorem Jc8 {bj : Nat} (hj : j < 8) : stepV b2 b3 ps cs (.blk bj #[.int .i64 (j : Int)] 3 :: F) j (.func (.func 319) #[] #[pB bj, pB b2, pB b3]) := by
 grind [stepV]
theorem K3 (hj : j = 8 ∨ j = 9 + ps.length ∨ j = 11 + ps.length) : stepV b2 b3 ps cs F j (.func (.func 318) #[] #[pB b2]) := by
 grind [stepV]
theorem Jc9 {us : List Value} {i bj : Nat} {q : Pr × List Wr} (hq : ps[i]? = some q) (hr : (cs.drop (i * 6)).take 6 = us) : stepV b2 b3 ps cs (.blk bj us.toArray 57 :: F) (9 + i) (.func (.func 321) #[] #[pB bj, pB b2, pB b3]) := by
 grind [stepV]
theorem Jc7 : stepV b2 b3 ps cs F (10 + ps.length) (.func (.func 322) #[] #[pB b2, pB b3]) := by
 grind [stepV]
set_option maxHeartbeats 1000000 in
theorem Jc6 {wc w : World} {H : List Ent} {bS bd lo hi : Nat} (x : Su) (a9 n : Int) (h : List V8) (k : Int) (da : Option Addr) (dc : Nat) (cs : List Value) (ps : Pl) (es : List Ent) (hl : h.length = 32) (hps : ps.length ≤ 1000) (hPB : PrBk cs ps es)
 (M : Mem wc w (stB bS x a9 n h k (.slice da ps.length dc) :: Jd lo hi 57 6 (.slice da ps.length dc) ps.length cs :: H)) :
 CT 269 #[pB bd, pB bS] w fun e w' => ∃ b2 b3 ra rc rlo rhi fc F, e = .returned (.slice ra (12 + ps.length) rc) ∧ StepsBk b2 b3 ps cs F (12 + ps.length) fc ∧
  Mem wc w' (Jd rlo rhi 74 1 (.slice ra (12 + ps.length) rc) (12 + ps.length) fc :: .blk b2 #[pB bd] 75 :: .blk b3 #[pB bS] 356 :: stB bS x a9 n h k (.slice da ps.length dc) :: Jd lo hi 57 6 (.slice da ps.length dc) ps.length cs :: (F ++ H)) := by
 have hok := J4 x a9 n k hl
 refine qI Tryz.func269 45 ?_
 refine gp [[2]] ?_; intro a S
 refine VA S M rfl rfl rfl #[_] rfl ?_; intro a w1 bB S M hB
 refine VA S M rfl rfl rfl #[_] rfl ?_; intro a w2 bC S M hB
 refine qG [1] S ?_; intro a S
 refine nxA (qY S (Jx (fs := []) (cs := [.tmp 2]) S rfl rfl) ?_); intro a S
 refine gp [[0,1],[4,1],[5,1],[3]] ?_; intro a S
 refine Jc (fun m a w' => ∃ (j : Nat) (ra : Option Addr) (rc rlo rhi : Nat) (fc : List Value) (F : List Ent), j ≤ 8 ∧ m = 8 - j ∧ StepsBk bB bC ps cs F j fc ∧ Jk 45 a [(2, pB bB), (3, pB bC), (5, .func (.func 318) #[] #[pB bB]), (6, .slice ra j rc), (12, .int .i64 (j : Int))] ∧ Mem wc w' (Jd rlo rhi 74 1 (.slice ra j rc) j fc :: .blk bB #[pB bd] 75 :: .blk bC #[pB bS] 356 :: stB bS x a9 n h k (.slice da ps.length dc) :: Jd lo hi 57 6 (.slice da ps.length dc) ps.length cs :: (F ++ H))) (8) ?_ ?_
 ·skip
  replace M := M.od [3, 3, 2, 3]
  obtain ⟨rlo, rhi, M1⟩ := M.nilRow 74 1
  exact ⟨0, none, 0, rlo, rhi, [], [], Nat.zero_le _, rfl, StepsBk.nil _ _ _ _ _, S.sub _ rfl, M1⟩
 intro m a wl
 rintro ⟨j, ra, rc, rlo, rhi, fc, F, hj, rfl, hSB, S, M⟩
 have hfl := hSB.len
 refine gq [[2,1],[3],[940,13]] ?_ ?_
 ·intro a h13 S
  refine gp [[7,1]] ?_; intro a S
  refine qN S M #[.int .i64 0] ?_; intro a w3 bK S M hB
  refine go [[900,0],[3,1]] ?_; intro a w4 S M
  refine qY S (Jx (fs := []) (cs := [.tmp 7, .tmp 2, .tmp 3]) S rfl rfl) ?_; intro a S
  refine JG (ps := [(0, .tmp 16)]) (e := 74) (sz := 1) (zl := [.nilFunc]) (cs := [_]) S M rfl rfl k_ rfl (rfl) ?_; intro a w5 bZ S M hB
  refine qP_ (e := 74) (sz := 1) (by_ := 8) (zc := [.nilFunc]) S M 2 rfl rfl rfl (show Rd _ _ _ 1 _ 1 [.func (.func 319) #[] #[pB bK, pB bB, pB bC]] from M.sliceAt 0 rfl (M.cellsAt (k := 1) 0 rfl rfl) rfl (Nat.le_refl _) (by grind [maxLen])) ?_; intro a w6 vA loA hiA S M
  obtain ⟨aA, cA, rfl, -, -⟩ := (M.readAll 0 rfl (by grind [maxLen])).form
  replace M := M.drp 1
  refine qY S (JP S rfl) ?_
  refine gp [[4],[901],[0,1],[2]] ?_; intro a S
  replace M := M.od [5, 5, 5, 5, 4]
  exact ⟨8 - (j + 1), by omega, j + 1, aA, cA, loA, hiA, _, .blk bK #[.int .i64 (j : Int)] 3 :: F, by omega, rfl, hSB.snoc (fun e he => List.mem_cons_of_mem _ he) (Jc8 o_), S.sub _ rfl, M⟩
 intro a h13 S
 refine gp [[7]] ?_; intro a S
 obtain rfl : j = 8 := by omega
 refine gp [[1,1,1]] ?_; intro a S
 refine JG (ps := [(0, .tmp 21)]) (e := 74) (sz := 1) (zl := [.nilFunc]) (cs := [_]) S M rfl rfl k_ rfl (rfl) ?_; intro a w7 bZ S M hB
 refine qP_ (e := 74) (sz := 1) (by_ := 8) (zc := [.nilFunc]) S M 1 rfl rfl rfl (show Rd _ _ _ 1 _ 1 [.func (.func 318) #[] #[pB bB]] from M.sliceAt 0 rfl (M.cellsAt (k := 1) 0 rfl rfl) rfl (Nat.le_refl _) (by grind [maxLen])) ?_; intro a w8 vA loA hiA S M
 obtain ⟨aA, cA, rfl, -, -⟩ := (M.readAll 0 rfl (by grind [maxLen])).form
 have hSB2 := hSB.snoc (fun e he => he) (K3 (F := F) (b3 := bC) (cs := cs) (ps := ps) (j := 8) (b2 := bB) (.inl rfl))
 replace M := M.drp 1
 refine qY S (JP S rfl) ?_
 refine gp [[5,3]] ?_; intro a S
 refine qY S (jT S rfl) ?_
 refine gp [[0,272]] ?_; intro a S
 refine qY S (Jf S k_ rfl (M.cell 3 rfl (St.doubt hok _))) ?_
 refine gp [[904,57,4],[0,1],[3]] ?_; intro a S
 refine Jc (fun m a w' => ∃ (i : Nat) (ra : Option Addr) (rc rlo rhi : Nat) (fc : List Value) (F : List Ent), i ≤ ps.length ∧ m = ps.length - i ∧ StepsBk bB bC ps cs F (9 + i) fc ∧ Jk 45 a [(2, pB bB), (3, pB bC), (5, .func (.func 318) #[] #[pB bB]), (6, .slice ra (9 + i) rc), (27, .slice da ps.length dc), (28, .int .i64 (ps.length : Int)), (29, .int .i64 (i : Int))] ∧ Mem wc w' (Jd rlo rhi 74 1 (.slice ra (9 + i) rc) (9 + i) fc :: .blk bB #[pB bd] 75 :: .blk bC #[pB bS] 356 :: stB bS x a9 n h k (.slice da ps.length dc) :: Jd lo hi 57 6 (.slice da ps.length dc) ps.length cs :: (F ++ H))) (ps.length) ?_ ?_
 ·skip
  replace M := M.od [4, 4, 4, 4, 4]
  exact ⟨0, aA, cA, loA, hiA, _, F, Nat.zero_le _, rfl, hSB2, S.sub _ rfl, M⟩
 intro m a wl
 rintro ⟨i, ra, rc, rlo, rhi, fc, F, hi', rfl, hSB, S, M⟩
 have hfl := hSB.len
 refine gq [[2,1],[3],[943,30]] ?_ ?_
 ·intro a h30 S
  refine gp [[7]] ?_; intro a S
  obtain rfl : i = ps.length := by omega
  refine wp_region_lit (qY S (Jx (fs := []) (cs := [.tmp 2, .tmp 3]) S rfl rfl) ?_); intro a S
  refine gp [[0,1],[4,1,1,1,1]] ?_; intro a S
  refine JG (ps := [(0, .tmp 40), (1, .tmp 41), (2, .tmp 42)]) (e := 74) (sz := 1) (zl := [.nilFunc, .nilFunc, .nilFunc]) (cs := [_, _, _]) S M rfl rfl k_ rfl (rfl) ?_; intro a w13 bZ S M hB
  refine qP_ (e := 74) (sz := 1) (by_ := 8) (zc := [.nilFunc]) S M 1 rfl rfl rfl (show Rd _ _ _ 1 _ 3 [.func (.func 318) #[] #[pB bB], .func (.func 322) #[] #[pB bB, pB bC], .func (.func 318) #[] #[pB bB]] from M.sliceAt 0 rfl (M.cellsAt (k := 3) 0 rfl rfl) rfl (Nat.le_refl _) (by grind [maxLen])) ?_; intro a w14 vA loA hiA S M
  obtain ⟨aA, cA, rfl, -, -⟩ := (M.readAll 0 rfl (by grind [maxLen])).form
  replace M := M.drp 1
  refine qY S (JP S rfl) ?_
  refine gp [[3],[930]] ?_
  replace M := M.od [4, 4, 4, 4, 4]
  have k1 := hSB.snoc (fun e he => he) (K3 (F := F) (b3 := bC) (cs := cs) (ps := ps) (j := 9 + ps.length) (b2 := bB) (.inr (.inl rfl)))
  have k2 := k1.snoc (fun e he => he) (v := .func (.func 322) #[] #[pB bB, pB bC]) (by grind [Jc7])
  have k3 := k2.snoc (fun e he => he) (v := .func (.func 318) #[] #[pB bB]) (K3 (.inr (.inr o_)))
  grind
 intro a h30 S
 refine gp [[6]] ?_; intro a S
 obtain ⟨q, hq⟩ : ∃ q, ps[i]? = some q := ⟨_, List.getElem?_eq_getElem o_⟩
 obtain ⟨ad, cp, wlo, whi, hrow, hmem, -⟩ := hPB.2.2 i q hq
 refine gp [[1],[905,57,6,4]] ?_; intro a S
 refine qY S (Ja S k_ rfl rfl ((M.readAll 4 rfl (by grind [maxLen])).at_.row (i := i) hrow rfl)) ?_; intro a S
 refine qN S M zz ?_; intro a w9 bK S M hB
 refine go [[900,0],[3,1]] ?_; intro a w10 S M
 refine qY S (Jx (fs := []) (cs := [.tmp 9, .tmp 2, .tmp 3]) S rfl rfl) ?_; intro a S
 refine JG (ps := [(0, .tmp 34)]) (e := 74) (sz := 1) (zl := [.nilFunc]) (cs := [_]) S M rfl rfl k_ rfl (rfl) ?_; intro a w11 bZ S M hB
 refine qP_ (e := 74) (sz := 1) (by_ := 8) (zc := [.nilFunc]) S M 2 rfl rfl rfl (show Rd _ _ _ 1 _ 1 [.func (.func 321) #[] #[pB bK, pB bB, pB bC]] from M.sliceAt 0 rfl (M.cellsAt (k := 1) 0 rfl rfl) rfl (Nat.le_refl _) (by grind [maxLen])) ?_; intro a w12 vA loA hiA S M
 obtain ⟨aA, cA, rfl, -, -⟩ := (M.readAll 0 rfl (by grind [maxLen])).form
 replace M := M.drp 1
 refine qY S (JP S rfl) ?_
 refine gp [[4],[901],[0,1],[2]] ?_; intro a S
 replace M := M.od [5, 5, 5, 5, 4]
 exact ⟨ps.length - (i + 1), by omega, i + 1, aA, cA, loA, hiA, _, .blk bK (q.1.cellsL (.slice ad q.2.length cp)).toArray 57 :: F, by omega, rfl, hSB.snoc (fun e he => List.mem_cons_of_mem _ he) (Jc9 hq hrow), S.sub _ rfl, M⟩
end
theorem Gd {α : Type} {F1 F2 G E : List α} {x a b c : α} : (a :: b :: c :: ((F1 ++ x :: F2 ++ G) ++ E)).Perm (x :: a :: b :: c :: ((F1 ++ F2 ++ G) ++ E)) := by
 have e1 : (F1 ++ x :: F2 ++ G) ++ E = F1 ++ x :: (F2 ++ G ++ E) := by simp
 have e2 : (F1 ++ F2 ++ G) ++ E = F1 ++ (F2 ++ G ++ E) := by simp
 rw [e1, e2]
 exact (((List.perm_middle.cons c).cons b).cons a).trans (((((List.Perm.swap x c _).cons b).cons a).trans ((List.Perm.swap x b _).cons a)).trans (List.Perm.swap x a _))
structure StepOk (S0 : DS) (x : Su) (a9 n : Int) (h : List V8) (ps : Pl) (j : Nat) : Prop where
 up : S0.down = false
 cache : ∀ k, (S0.cache k).length ≤ 100000
 hl : h.length = 32
 may : x.may
 lg : Zb a9 n
 big : n ≤ 2147483648
 mq : ∀ q ∈ ps, Za q
 room : ∀ (i : Nat) (q : Pr × List Wr), j = 9 + i → ps[i]? = some q → n + (VS q : Nat) ≤ a9 + 24
theorem Jdd {wc w : World} {F G E es : List Ent} {b2 b3 bS bd : Nat} {S0 : DS} (x : Su) (a9 n : Int) (h : List V8) (k : Int) (dv : Value) (cs : List Value) (ps : Pl) (j : Nat) (v : Value) (hv : stepV b2 b3 ps cs F j v) (hE : DkE bd S0 E)
 (M : Mem wc w (.blk b2 #[pB bd] 75 :: .blk b3 #[pB bS] 356 :: stB bS x a9 n h k dv :: ((F ++ G) ++ E))) (hok : StepOk S0 x a9 n h ps j) (hB : PrBk cs ps es) (hes : ∀ e ∈ es, e ∈ G) :
 ∃ (f : FuncId) (ca : List Value), v = .func (.func f) #[] ca.toArray ∧ VL Tryz.prog f ∧ CT f ca.toArray w (fun e w' => e = .returned (.int .i64 0) ∧ ∃ E', DkE bd (sv1 h ps x j (S0, n)).1 E' ∧ Mem wc w' (.blk b2 #[pB bd] 75 :: .blk b3 #[pB bS] 356 :: stB bS x a9 (sv1 h ps x j (S0, n)).2 h k dv :: ((F ++ G) ++ E'))) := by
 obtain ⟨hup, hca, hl, hmay, hlg, hbig, hmq, hroom⟩ := hok
 have hw6 : ∀ k, (S0.cache k).length ≤ 1000000 := fun k => by grind
 have hFl : ∀ {j : Nat}, (j = 8 ∨ j = 9 + ps.length ∨ 10 + ps.length < j) → v = .func (.func 318) #[] #[pB b2] → ∃ (f : FuncId) (ca : List Value), v = .func (.func f) #[] ca.toArray ∧ VL Tryz.prog f ∧ CT f ca.toArray w (fun e w' => e = .returned (.int .i64 0) ∧ ∃ E', DkE bd (sv1 h ps x j (S0, n)).1 E' ∧ Mem wc w' (.blk b2 #[pB bd] 75 :: .blk b3 #[pB bS] 356 :: stB bS x a9 (sv1 h ps x j (S0, n)).2 h k dv :: ((F ++ G) ++ E'))) := by
  intro j hj hv
  rw [Jc2 hj]
  exact ⟨_, [pB b2], hv, Ji Tryz.func318 d_ rfl, Jde (A := _ :: _ :: (F ++ G)) hE M hup hw6⟩
 unfold stepV at hv
 split at hv
 ·rename_i hj
  obtain ⟨bj, rfl, hm⟩ := hv
  obtain ⟨F1, F2, rfl⟩ := List.append_of_mem hm
  refine ⟨_, [pB bj, pB b2, pB b3], rfl, Ji Tryz.func319 d_ rfl, ?_⟩
  rw [Jhs hj]
  refine (Jdb (A := F1 ++ F2 ++ G) j x a9 n h k dv hE (M.perm Gd) hup hw6 hj hl).mono ?_
  rintro e w' ⟨he, E', hE', M'⟩
  exact ⟨he, E', hE', M'.perm Gd.symm⟩
 ·split at hv
  ·simp_all
  ·rename_i h8 h9
   obtain ⟨i, rfl⟩ : ∃ i, j = 9 + i := ⟨j - 9, by omega⟩
   rw [show 9 + i - 9 = i by omega] at hv
   cases hq : ps[i]? with
   | none =>
     rw [hq] at hv
     have hil := List.getElem?_eq_none_iff.1 hq
     simp only at hv
     split at hv
     ·rename_i h10
      rw [h10, Jhr]
      exact ⟨_, [pB b2, pB b3], hv, Ji Tryz.func322 d_ rfl, Jda (A := F ++ G) x a9 n h k dv hE M hup hw6 hmay⟩
     ·rename_i h10
      exact hFl o_ hv
   | some q =>
     rw [hq] at hv
     obtain ⟨bj, rfl, hm⟩ := hv
     obtain ⟨ad, cp, lo, hi, hrow, hmem, hx⟩ := hB.2.2 i q hq
     rw [hrow] at hm
     obtain ⟨F1, F2, rfl⟩ := List.append_of_mem hm
     refine ⟨_, [pB bj, pB b2, pB b3], rfl, Ji Tryz.func321 d_ rfl, ?_⟩
     rw [Jht hq]
     refine (Jdf (A := F1 ++ F2 ++ G) q ad cp x a9 n h k dv hE (M.perm Gd) hup hca hl (hmq q (List.mem_of_getElem? hq)) (fun W H9 M9 => Jfu M9 (List.mem_append_right _ (List.mem_append_left _ (List.mem_append_right _ (hes _ hmem)))) hx) hlg hbig ⟨hmay.2.2.2.2.2.2.2.1, hmay.2.2.2.2.2.2.2.2.1⟩ (hroom i q rfl hq)).mono ?_
     rintro e w' ⟨he, E', hE', M'⟩
     exact ⟨he, E', hE', M'.perm Gd.symm⟩
section
variable {S0 : DS} {n : Int} {h : List V8} {ps : Pl} {x : Su} {α : Type}
def ZB (x : Su) (n : Int) : Su := { x with gen := x.gen + 1, tail := n }
theorem Jfo (x : Su) (a b : Int) (h : List V8) (n g : Int) (dv : Value) : ((stX x a b h n).cellsL dv).set 0 (.int .i64 g) = (stX { x with gen := g } a b h n).cellsL dv := rfl
theorem Jfn (x : Su) (a b : Int) (h : List V8) (n g : Int) (dv : Value) : ((stX x a b h n).cellsL dv).set 1 (.int .i64 g) = (stX { x with tail := g } a b h n).cellsL dv := rfl
theorem Jbm (x : Su) (a b : Int) (hl : h.length = 32) (n g : Int) (dv : Value) : ((stX x a b h n).cellsL dv).set 272 (.int .i64 g) = (stX x a b h g).cellsL dv := by
 rw [St.setA (J4 x a b n hl)]; rfl
theorem Jdj (x : Su) (a b : Int) (h : List V8) (n g : Int) (dv : Value) : ((stX x a b h n).cellsL dv).set 13 (.int .i64 g) = (stX x g b h n).cellsL dv := rfl
theorem Jho {i : Nat} {q : Pr × List Wr} {a : Int} (hq : ps[i]? = some q) (hr : n + (wtP ps : Nat) ≤ a + 24) : (sv h ps x (9 + i) (S0, n)).2 + (VS q : Nat) ≤ a + 24 := by
 rw [Dx, show 9 + i - 9 = i by omega]
 have h1 := vk hq
 grind [Z0, List.take_append_drop]
theorem Jhp (j : Nat) : (sv h ps x j (S0, n)).2 ≤ n + (wtP ps : Nat) := by
 rw [Dx]
 grind [Z0, List.take_append_drop]
theorem Jhq (j : Nat) : n ≤ (sv h ps x j (S0, n)).2 := by
 rw [Dx]; omega
theorem yZ {D : α} {es P G : List α} : (D :: (es ++ (P ++ G))).Perm (P ++ (D :: (es ++ G))) := by
 have h1 : (es ++ (P ++ G)).Perm (P ++ (es ++ G)) := by
  rw [← List.append_assoc, ← List.append_assoc]; exact List.perm_append_comm.append_right G
 exact (h1.cons D).trans (List.perm_middle.symm)
theorem JfI {R B C W D X Z : α} {F es A E : List α} : (R :: B :: C :: W :: D :: (F ++ (X :: Z :: (es ++ (A ++ E))))).Perm (B :: C :: W :: ((F ++ (R :: D :: X :: Z :: (es ++ A))) ++ E)) := by
 have e : (F ++ (R :: D :: X :: Z :: (es ++ A))) ++ E = F ++ (R :: D :: (X :: Z :: (es ++ (A ++ E)))) := by simp
 rw [e]
 have h1 : (F ++ (R :: D :: (X :: Z :: (es ++ (A ++ E))))).Perm (R :: D :: (F ++ (X :: Z :: (es ++ (A ++ E))))) := List.perm_middle.trans (List.perm_middle.cons R)
 refine List.Perm.trans ?_ (((h1.cons W).cons C).cons B).symm
 exact (List.Perm.swap B R _).trans (((List.Perm.swap C R _).trans ((List.Perm.swap W R _).cons C)).cons B)
theorem Jfj {R B C W D X Z : α} {F es A E : List α} : (W :: D :: Z :: (es ++ (A ++ E))).Sublist (B :: C :: W :: ((F ++ (R :: D :: X :: Z :: (es ++ A))) ++ E)) := by
 refine .cons _ (.cons _ (.cons_cons _ ?_))
 have e : (D :: Z :: (es ++ (A ++ E))) = (D :: Z :: (es ++ A)) ++ E := by simp
 rw [e]
 exact (List.Sublist.trans (.cons _ (.cons_cons _ (.cons _ (.cons_cons _ (List.Sublist.refl _))))) (List.sublist_append_right F _)).append (List.Sublist.refl _)
set_option maxHeartbeats 4000000 in
set_option maxRecDepth 10000 in
theorem WS {wc w : World} {A E : List Ent} {bd : Nat} (x : Su) (a9 n : Int) (h : List V8) (k : Int) (dv : Value) (cs : List Value) (ps : Pl) (hE : DkE bd S0 E) (M : Mem wc w (A ++ E)) (hd : ∀ W H', Mem wc W (H' ++ (A ++ E)) → PrsC cs 0 W.heap.size W dv ps) (hps : ps.length ≤ 20) (hws : ∀ (i : Nat) (q : Pr × List Wr), ps[i]? = some q → q.2.length ≤ 1000000)
 (hup : S0.down = false) (hw : ∀ k, (S0.cache k).length ≤ 10000) (hl : h.length = 32) (hmq : ∀ q ∈ ps, Za q) (hlg : Zb a9 n) (hn : n ≤ 2000000000) (hmay : (ZB x n).may) (hg : 0 ≤ x.gen) (hroom : n + (wtP ps : Nat) ≤ a9 + 24) :
 CT 188 #[pB bd, .agg ((stX x a9 n h k).cellsL dv).toArray] w fun e w' => ∃ da dc lo hi cs2 es2 E', e = .returned (.tuple #[.agg ((stX (ZB x n) n (n + (wtP ps : Nat)) h 0).cellsL (.slice da ps.length dc)).toArray, .int .i64 0]) ∧ DkE bd (sv h ps (ZB x n) (12 + ps.length) (S0, n)).1 E' ∧ PrBk cs2 ps es2 ∧ Mem wc w' (Jd lo hi 57 6 (.slice da ps.length dc) ps.length cs2 :: (es2 ++ (A ++ E'))) := by
 have hok := J4 x a9 n k hl
 have hgm : x.gen + 1 ≤ 1099511627776 := hmay.2.2.1
 have hwt := Dq ps hmq
 refine qI Tryz.func188 59 ?_; intro a S
 refine nxD (VA S M rfl rfl rfl _ rfl ?_); intro a w1 bX S M hB
 refine qN S M (zSt.cellsL (.slice none 0 0)).toArray ?_; intro a w2 bZ S M hB
 refine qG [1] S ?_; intro a S
 refine nxC (wp_scope_straight ?_)
 refine gp [[3,1]] ?_; intro a S
 refine qY S (J9 k_ S rfl) ?_
 refine go [[7],[910],[911,0,14]] ?_; intro a w3 S M
 refine kR 1 S rfl M (fun w M => Ja (cs := [_, _]) S k_ rfl rfl (M.cellsAt (k := 2) 1 rfl (JaH _ _ _ _ _ _))) ?_; intro a S
 refine kR 3 S rfl M (fun w M => Ja (k := 273) (cs := _) S k_ rfl (by grind [St.len]) (M.cellsAt 1 rfl JC)) ?_; intro a S
 refine k1_ 2 ?_
 refine qK S rfl (Di a9 n _ hlg) M ?_; intro a w4 S hK M
 refine kH_ hK ?_
 refine k1_ 4 ?_
 refine qK S rfl (Jbg _ hok dv cs ps _ (hd _ [_, _] M) o_ hmq) M ?_; intro a w5 S hK M
 refine kH_ hK ?_
 refine Jj 5 S rfl (fun w => J2 S rfl rfl rfl) ?_
 refine gp [[2],[941,19],[5]] ?_; intro a S
 refine qY S (Ja (k := 273) (cs := _) S k_ rfl (by grind [St.len]) (M.cellsAt 1 rfl JC)) ?_; intro a S
 refine qD S rfl (Xw _ hok dv cs ps _ (hd _ [_, _] M) o_ hws) ?_
 rintro _ w6 ⟨dv2, rfl, lo2, hi2, cs2, es2, M2, hBk⟩; refine rv_ ?_; intro a S
 obtain ⟨da2, dc2, rfl, -, -⟩ := (M2.readRow 0 rfl (by grind [maxLen])).form
 replace M := (M.join M2).perm (yZ (P := [_, _]))
 replace M := M.c_
 clear M2
 refine qN S M (zSt.cellsL (.slice none 0 0)).toArray ?_; intro a w7 bW S M hB
 refine JN (sz := 273) S M 0 rfl k_ rfl rfl (by grind [St.len]) (by with_reducible exact St.one hok _ rfl) rfl (by grind [St.len, JH]) ?_; intro w8 M
 replace M := M.s_
 refine gp [[4,1,1]] ?_; intro a S
 refine qY S (Jf S k_ rfl (M.cell 0 rfl (Jhz _ _ _ _ _ _))) ?_
 refine gp [[901],[0,1,1]] ?_; intro a S
 refine Ju (sz := 1) (us := [_]) S M 0 rfl k_ rfl rfl rfl rfl rfl rfl (by grind [St.len]) ?_; intro w9 M
 simp only [Jt, List.set_cons_zero, Nat.reduceAdd] at M
 replace S := S.keep [0, 1, 3, 4, 5, 11, 19, 6]
 refine nxC (wp_seq ?_)
 rw [Jfo] at M
 refine gp [[1,14,2]] ?_; intro a S
 refine qY S (Jf S k_ rfl (M.cell 2 rfl (Jhx _ _ _ _ _ _))) ?_
 refine gp [[0,1,2]] ?_; intro a S
 refine Ju (sz := 1) (us := [_]) S M 0 rfl k_ rfl rfl rfl rfl rfl rfl (by grind [St.len, J4]) ?_; intro w10 M
 simp only [Jt, List.set_cons_zero, Nat.reduceAdd] at M
 refine nxC (wp_seq ?_)
 rw [Jfn] at M
 refine gp [[1,273]] ?_; intro a S
 refine Ju (sz := 1) (us := [_]) S M 0 rfl k_ rfl rfl rfl rfl rfl rfl (by grind [St.len, J4]) ?_; intro w11 M
 simp only [Jt, List.set_cons_zero, Nat.reduceAdd] at M
 refine nxC (wp_seq ?_)
 rw [Jbm _ _ _ hl] at M
 refine gp [[1,1],[3]] ?_; intro a S
 refine wp_label ?_
 refine gp [[3]] ?_; intro a S
 replace M := M.od [1, 2, 3, 3]
 refine gp [[1,1]] ?_; intro a S
 refine qD S rfl (Jc6 (H := _ :: _ :: (es2 ++ (A ++ E))) (ZB x n) a9 n h 0 da2 dc2 cs2 ps es2 hl o_ hBk M) ?_
 rintro _ w12 ⟨b2, b3, ra, rc, rlo, rhi, fc, F, rfl, hSB, M1⟩; refine rv_ ?_; intro a S
 replace M := M1.perm JfI
 clear M1
 refine gp [[903,74],[0,1],[3]] ?_; intro a S
 refine Jc (fun m a w' => ∃ (j : Nat) (E' : List Ent), j ≤ 12 + ps.length ∧ m = 12 + ps.length - j ∧ DkE bd (sv h ps (ZB x n) j (S0, n)).1 E' ∧ Jk 59 a [(4, pB bZ), (6, pB bW), (7, .int .i64 0), (37, .slice ra (12 + ps.length) rc), (38, .int .i64 ((12 + ps.length : Nat) : Int)), (39, .int .i64 (j : Int))] ∧ Mem wc w' (.blk b2 #[pB bd] 75 :: .blk b3 #[pB bW] 356 :: stB bW (ZB x n) a9 (sv h ps (ZB x n) j (S0, n)).2 h 0 (.slice da2 ps.length dc2) :: ((F ++ (Jd rlo rhi 74 1 (.slice ra (12 + ps.length) rc) (12 + ps.length) fc :: Jd lo2 hi2 57 6 (.slice da2 ps.length dc2) ps.length cs2 :: stB bX x a9 n h k dv :: .blk bZ (zSt.cellsL (.slice none 0 0)).toArray 99 :: (es2 ++ A))) ++ E'))) (12 + ps.length) ?_ ?_
 ·skip
  exact ⟨0, E, Nat.zero_le _, rfl, hE, S.sub _ rfl, M⟩
 intro m a wl
 rintro ⟨j, E', hj, rfl, hE', S, M⟩
 refine gq [[2,1],[3],[943,40]] ?_ ?_
 ·intro a h40 S
  refine gp [[9,1,1],[2],[941,49],[4]] ?_; intro a S
  obtain rfl : j = 12 + ps.length := by omega
  have M9 := M.sub Jfj
  clear M; have M := M9; clear M9
  have hnn : (sv h ps (ZB x n) (12 + ps.length) (S0, n)).2 = n + (wtP ps : Nat) := by
   rw [Dx, List.take_of_length_le o_]
  rw [hnn] at M
  refine gp [[1,1,2]] ?_; intro a S
  refine qY S (Jf S k_ rfl (M.cell 0 rfl (Jit _ _ _ _ _ _))) ?_
  refine gp [[0,14,1]] ?_; intro a S
  refine Ju (sz := 1) (us := [_]) S M 0 rfl k_ rfl rfl rfl rfl rfl rfl (by grind [St.len, J4]) ?_; intro w14 M
  simp only [Jt, List.set_cons_zero, Nat.reduceAdd] at M
  refine nxC (wp_seq ?_)
  rw [Jdj] at M
  refine wp_region_lit (qY S (Ja (k := 273) (cs := _) S k_ rfl (by grind [St.len, J4]) (M.cellsAt 0 rfl JC)) ?_); intro a S
  refine JN (sz := 273) S M 2 rfl k_ rfl rfl (by grind [St.len, J4]) (by with_reducible exact St.one (J4 _ _ _ _ hl) _ rfl) rfl (by grind [St.len, JH]) ?_; intro w15 M
  replace M := M.s_
  refine gp [[0,1],[3]] ?_; intro a S
  refine YK ?_
  refine Jr S rfl (Y8 (k := 273) (cs := _) k_ rfl (by with_reducible exact St.len (J4 _ _ _ _ hl) _) (M.cellsAt 2 rfl JC)) rT_ ?_
  exact ⟨da2, dc2, lo2, hi2, cs2, es2, E', rfl, hE', hBk, M.sub (.cons _ (.cons_cons _ (.cons _ (List.Sublist.refl _))))⟩
 intro a h40 S
 refine gp [[6]] ?_; intro a S
 have hjl : j < fc.length := by rw [hSB.len]; omega
 obtain ⟨v, hv⟩ : ∃ v, fc[j]? = some v := ⟨_, List.getElem?_eq_getElem hjl⟩
 have hnle := Jhp (h := h) (ps := ps) (x := ZB x n) (S0 := S0) (n := n) j
 have hnge := Jhq (h := h) (ps := ps) (x := ZB x n) (S0 := S0) (n := n) j
 have hlg' := hlg
 unfold Zb at hlg'
 obtain ⟨f, ca, rfl, hEn, hCall⟩ := Jdd (ZB x n) a9 _ h 0 _ cs2 ps j v (hSB.get j v hv) hE' M ⟨by rw [U4]; exact hup, fun k => by have := Dy h (ZB x n) (S0, n) hmq (c := 10000) hw j k; omega, hl, hmay, by unfold Zb; omega, by omega, hmq, fun i q he hq => by subst he; exact Jho hq hroom⟩ hBk (fun e he => List.mem_cons_of_mem _ (List.mem_cons_of_mem _ (List.mem_cons_of_mem _ (List.mem_cons_of_mem _ (List.mem_append_left _ he)))))
 refine wp_region_lit (qY S (qX 74 1 S ((M.readIn (.tail _ (.tail _ (.tail _ (List.mem_append_left _ (List.mem_append_right _ (.head _)))))) m_))) ?_); intro a S
 replace S := S.n_
 refine qY S (Jf S k_ rfl ((M.readIn (.tail _ (.tail _ (.tail _ (List.mem_append_left _ (List.mem_append_right _ (.head _)))))) m_).at_.one j hv)) ?_
 refine gp [[0,1],[4,1]] ?_; intro a S
 refine JR (xs := []) (fi := []) (ca := ca) S (hEn) rfl rfl (rfl) rfl (hCall) ?_
 rintro _ w13 ⟨rfl, E2, hE2, M1⟩; have M := M1; clear M1
 refine gp [[0,1],[4,1,1],[2],[941,46],[5],[901],[0,1],[2]] ?_; intro a S
 exact ⟨12 + ps.length - (j + 1), by omega, j + 1, E2, by omega, rfl, hE2, S.sub _ rfl, M⟩
end
section
variable {bd : Nat} {dv : Value}
structure Sh where
 x : Su
 a : Int
 n : Int
 h : List V8
 k : Int
 ps : Pl
abbrev Sh.st (s : Sh) : St := stX s.x s.a s.n s.h s.k
def shC (bd : Nat) (s : Sh) (dv : Value) : List Value := [pB bd] ++ (s.st.cellsL dv ++ [])
abbrev shE (b bd : Nat) (s : Sh) (dv : Value) : Ent := .blk b (shC bd s dv).toArray 101
def ShM (wc w : World) (A : List Ent) (b bd : Nat) (s : Sh) (S : DS) : Prop := ∃ (da : Option Addr) (dc lo hi : Nat) (cs : List Value) (es E : List Ent), DkE bd S E ∧ PrBk cs s.ps es ∧
 Mem wc w (shE b bd s (.slice da s.ps.length dc) :: Jd lo hi 57 6 (.slice da s.ps.length dc) s.ps.length cs :: (es ++ (A ++ E)))
def Sh.keep (s : Sh) (r : Rc) (x : List Wr) : Sh := ⟨{ s.x with owned := Zw s.x.owned s.ps r }, s.a, s.n + (nOf (r.enc x).length : Nat), onF s.h (JL s.ps r x).2, IntKind.i64.wrap (s.k + 1), (JL s.ps r x).1⟩
def Sh.keepD (s : Sh) (S : DS) (r : Rc) (x : List Wr) (fl : Bool) : DS := if fl = true then (jc S (V1 (r.enc x) s.n s.x.inc)).flush else jc S (V1 (r.enc x) s.n s.x.inc)
def Sh.save (s : Sh) : Sh := ⟨ZB s.x s.n, s.n, s.n + (wtP s.ps : Nat), s.h, 0, s.ps⟩
def Sh.saveD (s : Sh) (S : DS) : DS := (sv s.h s.ps (ZB s.x s.n) (12 + s.ps.length) (S, s.n)).1
structure ShI (S : DS) (s : Sh) (N : Int) : Prop where
 up : S.down = false
 cache : ∀ k, ((S.cache k).length : Int) ≤ 5 * N
 hl : s.h.length = 32
 mq : ∀ q ∈ s.ps, Za q
 may : s.x.may
 lg : Zb s.a s.n
 nx : s.n ≤ 20 * N
 gen : s.x.gen ≤ N
 few : N ≤ 1000
 w8 : wtP s.ps + s.ps.length ≤ 8
 room : s.n + ((wtP s.ps + s.ps.length : Nat) : Int) ≤ s.a + 24
theorem JgU (v : Value) : [v].length = 0 + 1 := rfl
theorem yr {s : Sh} (hl : s.h.length = 32) : (shC bd s dv).length = 274 := by
 grind [shC, St.len, J4]
theorem Ku (bd : Nat) (s : Sh) (dv : Value) : (shC bd s dv).toArray[4]? = some (.int .i64 s.x.inc) := rfl
theorem Jbo (bd : Nat) (s : Sh) (dv : Value) : (shC bd s dv).toArray[0]? = some (pB bd) := rfl
theorem Wa (bd : Nat) (s : Sh) (dv : Value) : Vs (shC bd s dv).toArray.toList 14 2 = some [.int .i64 s.a, .int .i64 s.n] :=
 jF [pB bd, .int .i64 s.x.gen, .int .i64 s.x.tail, .int .i64 s.x.owned, .int .i64 s.x.inc, .int .i64 s.x.bound, .int .i64 s.x.m0, .int .i64 s.x.m1, .int .i64 s.x.m2, .int .i64 s.x.m3, .int .i64 s.x.m4, .int .i64 s.x.m5, .int .i64 s.x.m6, .int .i64 s.x.m7] [.int .i64 s.a, .int .i64 s.n] ((Jo s.h ++ [dv, .int .i64 s.k]) ++ [])
theorem WO {s : Sh} (hl : s.h.length = 32) : (shC bd s dv).toArray[272]? = some dv := by
 grind [St.doubt, J4, shC]
theorem U9 {s s' : Sh} {dv' : Value} (hl : s.h.length = 32) (hl' : s'.h.length = 32) : Jt (shC bd s dv) 1 (s'.st.cellsL dv') = shC bd s' dv' := by
 grind [Yc, yr, shC]
theorem vC {wc w : World} {A E es pre : List Ent} {lo hi : Nat} {da : Option Addr} {dc : Nat} {cs : List Value} {ps : Pl} (hB : PrBk cs ps es) (hps : ps.length ≤ 1000) (M : Mem wc w (pre ++ (Jd lo hi 57 6 (.slice da ps.length dc) ps.length cs :: (es ++ (A ++ E))))) : PrsC cs 0 w.heap.size w (.slice da ps.length dc) ps :=
 (hB.prs M (List.mem_append_right _ (.head _)) (fun e he => List.mem_append_right _ (.tail _ (List.mem_append_left _ he))) (by grind [maxLen])).wide (Nat.zero_le _) (Nat.le_refl _)
theorem WR {α : Type} {X D D2 : α} {P es es2 A E : List α} : (D2 :: (es2 ++ ((P ++ (X :: D :: (es ++ A))) ++ E))).Perm (P ++ (X :: D2 :: ((es2 ++ (A ++ E)) ++ (D :: es)))) := by
 have e : (P ++ (X :: D :: (es ++ A))) ++ E = (P ++ [X]) ++ (D :: (es ++ (A ++ E))) := by simp
 have e2 : P ++ (X :: D2 :: ((es2 ++ (A ++ E)) ++ (D :: es))) = (P ++ [X]) ++ (D2 :: ((es2 ++ (A ++ E)) ++ (D :: es))) := by simp
 rw [e, e2]
 refine yZ.trans (List.Perm.append_left _ (List.Perm.cons _ ?_))
 grind [List.Perm.append_left, List.perm_append_comm]
set_option maxHeartbeats 1000000 in
set_option maxRecDepth 10000 in
theorem Jdt {wc w : World} {A : List Ent} {b : Nat} {s : Sh} {S0 : DS} {N : Int} (hM : ShM wc w A b bd s S0) (hI : ShI S0 s N) :
 CT 102 #[pB b] w fun e w' => e = .returned (.int .i64 0) ∧ ShM wc w' A b bd s.save (s.saveD S0) := by
 obtain ⟨da, dc, lo, hi, cs, es, E, hE, hBk, M⟩ := hM
 obtain ⟨hup, hca, hl, hmq, hmay, hlg, hnx, hgen, hfew, hw8, hroom⟩ := hI
 have hps : s.ps.length ≤ 8 := by omega
 have hok := J4 s.x s.a s.n s.k hl
 have hlg' := hlg
 unfold Zb at hlg'
 have hmay2 : (ZB s.x s.n).may := by
  obtain ⟨h0, h1, h2, h3, h4, h5, h6, h7, h8, h9, h10⟩ := hmay
  refine ⟨h0, ?_⟩
  grind [ZB]
 have hl2 : s.save.h.length = 32 := hl
 have hok2 : s.save.st.ok := J4 _ _ _ _ hl2
 refine qI Tryz.func102 24 ?_
 refine gp [[2,1],[2]] ?_; intro a S
 refine YI (fun a w' => ∃ (bZ : Nat) (da2 : Option Addr) (dc2 lo2 hi2 : Nat) (cs2 : List Value) (es2 E2 : List Ent), DkE bd (s.saveD S0) E2 ∧ PrBk cs2 s.ps es2 ∧ Jk 24 a [(0, pB b), (3, pB bZ), (4, .int .i64 0)] ∧ Mem wc w' (.blk bZ (s.save.st.cellsL (.slice da2 s.ps.length dc2)).toArray 99 :: shE b bd s (.slice da s.ps.length dc) :: Jd lo2 hi2 57 6 (.slice da2 s.ps.length dc2) s.ps.length cs2 :: ((es2 ++ (A ++ E2)) ++ (Jd lo hi 57 6 (.slice da s.ps.length dc) s.ps.length cs :: es)))) ?_ ?_
 ·skip
  refine go [[910,8,13],[911,0,1,1,1]] ?_; intro a w1 S M
  refine kR 3 S rfl M (fun w M => Jf S k_ rfl (M.cell 0 rfl (Jbo _ _ _))) ?_
  refine gp [[911,4,1,1,2]] ?_; intro a S
  refine kR 7 S rfl M (fun w M => Ja (k := 273) S k_ rfl (by grind [St.len]) (M.cellsMid 0 rfl (by grind))) ?_; intro a S
  refine j3 8 12 rfl rfl k_ ?_ ?_
  ·skip
   refine qD S rfl (WS (A :=  _ :: _ :: (es ++ A)) s.x s.a s.n s.h s.k (.slice da s.ps.length dc) cs s.ps hE (by simpa only [List.cons_append, List.append_assoc] using M) (fun W H' M9 => vC (A := A) (E := E) (pre := H' ++  [_]) hBk o_ (by simpa only [List.cons_append, List.nil_append, List.append_assoc] using M9)) o_ (fun i q hq => by have := hmq q (List.mem_of_getElem? hq); exact hBk.short i q hq) hup (fun k => by grind) hl hmq hlg o_ hmay2 (by have := hmay.2.1; omega) o_) ?_
   rintro _ w2 ⟨da2, dc2, lo2, hi2, cs2, es2, E2, rfl, hE2, hBk2, M1⟩; refine rv_ ?_; intro a S
   have M := M1.perm (WR (P :=  []))
   clear M1
   replace M := M.c_
   refine kn_ ?_
   refine gp [[911,9,1,1,1]] ?_; intro a S
   refine k1_ 12 ?_
   refine qN S M (zSt.cellsL (.slice none 0 0)).toArray ?_; intro a w3 bZ S M hB
   refine kH_ hB ?_
   refine k1_ 13 ?_
   refine JN (sz := 273) S M 0 rfl k_ rfl rfl (by grind [St.len, J4]) (by with_reducible first | exact St.one hok _ rfl | exact St.one hok2 _ rfl | exact St.one JH _ rfl | exact St.one (J4 _ _ _ _ hl) _ rfl) rfl (by grind [St.len, JH]) ?_; intro w4 M
   replace M := M.s_
   refine kn_ ?_
   refine gp [[911,14,1],[2]] ?_; intro a S
   replace M := M.od [2, 2, 2]
   exact ⟨_, da2, dc2, lo2, hi2, cs2, es2, E2, hE2, hBk2, S.sub _ rfl, M⟩
  ·skip
   refine qN S M (zSt.cellsL (.slice none 0 0)).toArray ?_; intro a w5 bZ S M hB
   refine kH_ hB ?_
   refine k1_ 8 ?_
   refine qD S rfl (WS (A := _ ::  _ :: _ :: (es ++ A)) s.x s.a s.n s.h s.k (.slice da s.ps.length dc) cs s.ps hE (by simpa only [List.cons_append, List.append_assoc] using M) (fun W H' M9 => vC (A := A) (E := E) (pre := H' ++ _ ::  [_]) hBk o_ (by simpa only [List.cons_append, List.nil_append, List.append_assoc] using M9)) o_ (fun i q hq => by have := hmq q (List.mem_of_getElem? hq); exact hBk.short i q hq) hup (fun k => by grind) hl hmq hlg o_ hmay2 (by have := hmay.2.1; omega) o_) ?_
   rintro _ w6 ⟨da2, dc2, lo2, hi2, cs2, es2, E2, rfl, hE2, hBk2, M1⟩; refine rv_ ?_; intro a S
   have M := M1.perm (WR (P := _ ::  []))
   clear M1
   replace M := M.c_
   refine kn_ ?_
   refine gp [[911,9,1,1,1]] ?_; intro a S
   refine k1_ 13 ?_
   refine JN (sz := 273) S M 0 rfl k_ rfl rfl (by grind [St.len, J4]) (by with_reducible first | exact St.one hok _ rfl | exact St.one hok2 _ rfl | exact St.one JH _ rfl | exact St.one (J4 _ _ _ _ hl) _ rfl) rfl (by grind [St.len, JH]) ?_; intro w7 M
   replace M := M.s_
   refine kn_ ?_
   refine gp [[911,14,1],[2]] ?_; intro a S
   replace M := M.od [2, 2, 2]
   exact ⟨_, da2, dc2, lo2, hi2, cs2, es2, E2, hE2, hBk2, S.sub _ rfl, M⟩
 intro a wc
 rintro ⟨bZ, da2, dc2, lo2, hi2, cs2, es2, E2, hE2, hBk2, S, M⟩
 refine gp [[3,1,1],[2],[941,18],[5,1]] ?_; intro a S
 refine qY S (Ja (k := 273) (cs := _) S k_ rfl (by grind [St.len]) (M.cellsAt 0 rfl JC)) ?_
 refine gp [[0,1,2]] ?_; intro a S
 refine Ju (o := 1) (sz := 273) (us := s.save.st.cellsL (.slice da2 s.ps.length dc2)) S M 1 rfl k_ rfl rfl rfl (St.len hok2 _) (St.one hok2 _ rfl) rfl (by grind [yr, St.len]) ?_; intro wz M
 replace M := M.s_
 rw [U9 hl hl2] at M
 refine gp [[4,1],[3],[930]] ?_
 exact ⟨rfl, da2, dc2, lo2, hi2, cs2, es2, E2, hE2, hBk2, M.sub (.cons _ (.cons_cons _ (.cons_cons _ (List.sublist_append_left _ _))))⟩
end
def Sh.app (s : Sh) (r : Rc) (x : List Wr) : Sh := ⟨{ s.x with owned := Zw s.x.owned s.ps r }, s.a, s.n, onF s.h (JL s.ps r x).2, IntKind.i64.wrap (s.k + 1), (JL s.ps r x).1⟩
set_option maxHeartbeats 1000000 in
set_option maxRecDepth 10000 in
theorem G7 {wc w : World} {A : List Ent} {b bd : Nat} {s : Sh} {S0 : DS} {N : Int} (r : Rc) (va : Option Addr) (vc : Nat) (x : List Wr) (fl : Bool) (hM : ShM wc w A b bd s S0) (hI : ShI S0 s N) (hs : r.shards ≤ 9223372036854775807) (hW : ∀ W, Mem wc W A → Ws 0 W.heap.size W (.slice va x.length vc) x) (hx : x.length ≤ 1000000)
 (htk : YX r x = true) (hm : r.may x = true) (hroom : s.n + (nOf (r.enc x).length : Nat) ≤ s.a + 24) :
 CT 101 #[pB b, .agg (r.cells (.slice va x.length vc)), .bool fl] w fun e w' => e = .returned (.int .i64 0) ∧ ShM wc w' A b bd (s.keep r x) (s.keepD S0 r x fl) := by
 obtain ⟨da, dc, lo, hi, cs, es, E, hE, hBk, M⟩ := hM
 obtain ⟨hup, hca, hl, hmq, hmay, hlg, hnx, hgen, hfew, hw8, hrm⟩ := hI
 have hps : s.ps.length ≤ 8 := by omega
 have hok := J4 s.x s.a s.n s.k hl
 have hlA : (s.app r x).h.length = 32 := by show (onF _ _).length = 32; grind [Ve]
 have hokA : (s.app r x).st.ok := J4 _ _ _ _ hlA
 have hlK : (s.keep r x).h.length = 32 := hlA
 have hokK : (s.keep r x).st.ok := J4 _ _ _ _ hlK
 have hlg' := hlg
 unfold Zb at hlg'
 have hinc : 0 ≤ s.x.inc ∧ s.x.inc ≤ 1048576 := ⟨hmay.2.2.2.2.2.2.2.1, hmay.2.2.2.2.2.2.2.2.1⟩
 have hel := Zc hm
 have hsl := GS s.ps r x
 have hA : ∀ W H9, Mem wc W (H9 ++ (es ++ (A ++ E))) → Ws 0 W.heap.size W (.slice va x.length vc) x := fun W H9 M9 => hW W (M9.sub (((List.sublist_append_left A E).trans (List.sublist_append_right es _)).trans (List.sublist_append_right H9 _)))
 refine qI Tryz.func101 67 ?_
 refine gp [[2]] ?_; intro a S
 refine qW_ S M ?_; intro a w1 bRr S M hB
 refine gp [[0,1],[4],[902,0,12]] ?_; intro a S
 refine qD S rfl (Gw r va x.length vc x _ hs (hA _ [_, _, _] M)) ?_
 rintro _ w2 ⟨v1, rfl, hK, hF, -⟩; refine rv_ ?_; intro a S
 have hF := hF hm
 rw [if_pos hm] at S
 obtain ⟨lo3, hi3, -, M1⟩ := M.pushFresh hF; clear M; have M := M1; clear M1
 refine gp [[0,1,1,1,1,1],[5,1,1],[2],[941,16],[3]] ?_; intro a S
 refine YI (fun a w' => ∃ (bZ bRr : Nat) (da2 : Option Addr) (dc2 lo2 hi2 : Nat) (cs2 : List Value) (es2 : List Ent), PrBk cs2 (s.app r x).ps es2 ∧ Jk 67 a [(0, pB b), (2, .bool fl), (7, v1), (9, pB bZ), (8, .int .i64 0)] ∧ Mem wc w' (.blk bZ ((s.app r x).st.cellsL (.slice da2 (s.app r x).ps.length dc2)).toArray 99 :: Jd lo3 hi3 5 1 v1 (r.enc x).length (Jh (r.enc x)) :: .blk bRr (r.cells (.slice va x.length vc)) 87 :: shE b bd s (.slice da s.ps.length dc) :: Jd lo hi 57 6 (.slice da s.ps.length dc) s.ps.length cs :: Jd lo2 hi2 57 6 (.slice da2 (s.app r x).ps.length dc2) (s.app r x).ps.length cs2 :: (es2 ++ (es ++ (A ++ E))))) ?_ ?_
 ·skip
  refine go [[910,10],[911,0,1,1,2]] ?_; intro a w3 S M
  refine kR 3 S rfl M (fun w M => Ja (k := 273) S k_ rfl (by grind [St.len]) (M.cellsMid 2 rfl (by grind))) ?_
  refine gp [[912,4,1,12]] ?_; intro a S
  refine j3 5 9 rfl rfl k_ ?_ ?_
  ·skip
   refine qD S rfl (Xv s.st hok (.slice da s.ps.length dc) cs s.ps _ (vC (A := A) (E := E) (pre := _ :: _ :: _ ::  []) hBk o_ M) o_ hBk.short r va vc x (hA _ (_ :: _ :: _ ::  [_]) M) hx hs) ?_
   rintro _ w4 hAp; obtain ⟨s2, ps2, c2, da2, dc2, lo2, hi2, cs2, es2, rfl, hs2, M2, hBk2, hc2⟩ := UY hAp o_; refine rv_ ?_; intro a S; have hK := M2.below
   obtain ⟨rfl, rfl, rfl⟩ : c2 = 0 ∧ s2 = (s.app r x).st ∧ ps2 = (s.app r x).ps := by
    rcases hc2 with ⟨-, h1, h2, h3⟩ | ⟨h1, -⟩
    ·exact ⟨h1, h2, h3⟩
    grind
   have M1 := (M.join M2).perm (yZ (P := _ :: _ :: _ ::  [_]))
   clear M; have M := M1; clear M1 M2
   replace M := M.c_
   refine kH_ hK ?_
   refine gp [[911,6,1,1,1]] ?_; intro a S
   refine k1_ 9 ?_
   refine qN S M (zSt.cellsL (.slice none 0 0)).toArray ?_; intro a w5 bZ S M hB
   refine kH_ hB ?_
   refine k1_ 10 ?_
   refine JN (sz := 273) S M 0 rfl k_ rfl rfl (by grind [St.len]) (by with_reducible exact St.one hokA _ rfl) rfl (by grind [St.len, JH]) ?_; intro w6 M
   replace M := M.s_
   refine kn_ ?_
   refine gp [[911,11,1],[2]] ?_; intro a S
   replace M := M.od [4, 4, 4, 4, 4]
   exact ⟨_, _, da2, dc2, lo2, hi2, cs2, es2, hBk2, S.sub _ rfl, M⟩
  ·skip
   refine qN S M (zSt.cellsL (.slice none 0 0)).toArray ?_; intro a w7 bZ S M hB
   refine kH_ hB ?_
   refine k1_ 5 ?_
   refine qD S rfl (Xv s.st hok (.slice da s.ps.length dc) cs s.ps _ (vC (A := A) (E := E) (pre := _ :: _ :: _ :: _ ::  []) hBk o_ M) o_ hBk.short r va vc x (hA _ (_ :: _ :: _ :: _ ::  [_]) M) hx hs) ?_
   rintro _ w8 hAp; obtain ⟨s2, ps2, c2, da2, dc2, lo2, hi2, cs2, es2, rfl, hs2, M2, hBk2, hc2⟩ := UY hAp o_; refine rv_ ?_; intro a S; have hK := M2.below
   obtain ⟨rfl, rfl, rfl⟩ : c2 = 0 ∧ s2 = (s.app r x).st ∧ ps2 = (s.app r x).ps := by
    rcases hc2 with ⟨-, h1, h2, h3⟩ | ⟨h1, -⟩
    ·exact ⟨h1, h2, h3⟩
    grind
   have M1 := (M.join M2).perm (yZ (P := _ :: _ :: _ :: _ ::  [_]))
   clear M; have M := M1; clear M1 M2
   replace M := M.c_
   refine kH_ hK ?_
   refine gp [[911,6,1,1,1]] ?_; intro a S
   refine k1_ 10 ?_
   refine JN (sz := 273) S M 0 rfl k_ rfl rfl (by grind [St.len]) (by with_reducible exact St.one hokA _ rfl) rfl (by grind [St.len, JH]) ?_; intro w9 M
   replace M := M.s_
   refine kn_ ?_
   refine gp [[911,11,1],[2]] ?_; intro a S
   replace M := M.od [4, 4, 4, 4, 4]
   exact ⟨_, _, da2, dc2, lo2, hi2, cs2, es2, hBk2, S.sub _ rfl, M⟩
 intro a wc
 rintro ⟨bZ, bRr, da2, dc2, lo2, hi2, cs2, es2, hBk2, S, M⟩
 refine go [[3,1,1],[2],[941,28],[5],[910,16,21],[911,0,1,1,1]] ?_; intro a w10 S M
 refine kR 3 S rfl M (fun w M => Jf S k_ rfl (M.cell 3 rfl (Jbo _ _ _))) ?_
 refine gp [[911,4,1,1,2,14]] ?_; intro a S
 refine kR 8 S rfl M (fun w M => Ja (cs := [_, _]) S k_ rfl rfl (M.cellsAt (k := 2) 3 rfl (Wa _ _ _))) ?_
 refine gp [[911,9,1,1,2,1,4]] ?_; intro a S
 refine kR 14 S rfl M (fun w M => Jf S k_ rfl (M.cell 3 rfl (Ku _ _ _))) ?_
 refine gp [[911,15,1]] ?_; intro a S
 refine k1_ 16 ?_
 refine qD S rfl (UZ (A := _ :: _ :: _ :: _ :: _ ::  _ :: (es2 ++ (es ++ A))) s.a s.n s.x.inc v1 (r.enc x) hE (by simpa only [List.cons_append, List.append_assoc] using M) (fun W M9 => M9.readAll 1 rfl (by grind [maxLen])) hup hlg o_ hinc (fun k => by grind)) ?_
 rintro _ w11 ⟨n', er, S2, rfl, hP, E2, hE2, M1⟩; refine rv_ ?_; intro a S; have M := M1; clear M1
 obtain ⟨rfl, rfl, rfl⟩ : n' = s.n + (nOf (r.enc x).length : Nat) ∧ er = 0 ∧ S2 = jc S0 (V1 (r.enc x) s.n s.x.inc) := by
  rcases hP with ⟨-, h1, h2, h3⟩ | ⟨h1, -⟩
  ·exact ⟨h1, h2, h3⟩
  ·exact absurd ⟨fun e => by rw [e] at hel; simp at hel, hel.2, by omega⟩ h1
 simp only [List.cons_append, List.append_assoc] at M
 refine kn_ ?_
 refine gp [[911,17,1,1,1,14]] ?_; intro a S
 refine k1_ 21 ?_
 refine Ju (sz := 2) (us := [_, _]) S M 0 rfl k_ rfl rfl rfl rfl rfl rfl (by rw [St.len hokA]; exact (by decide : 15 ≤ 273)) ?_; intro w12 M
 simp only [Jt, List.set_cons_zero, Nat.reduceAdd] at M
 refine kn_ ?_
 refine gp [[911,22,1],[3]] ?_; intro a S
 rw [show ((((s.app r x).st.cellsL (.slice da2 (s.app r x).ps.length dc2)).set 13 (.int .i64 s.a)).set 14 (.int .i64 (s.n + (nOf (r.enc x).length : Nat)))) = (s.keep r x).st.cellsL (.slice da2 (s.keep r x).ps.length dc2) from rfl] at M
 refine gp [[1,1,1],[2],[941,52],[6,1],[2]] ?_; intro a S
 refine Jm (t := 54) S rfl ?_ ?_
 ·intro h54 S
  refine gp [[5,1]] ?_; intro a S
  refine qY S (Ja (k := 273) (cs := _) S k_ rfl (by with_reducible first | exact St.len hok _ | exact St.len hokA _ | exact St.len hokK _ | exact St.len JH _ | exact yr hl | exact JgU _) (M.cellsAt 0 rfl JC)) ?_
  refine gp [[0,1,2]] ?_; intro a S
  refine Ju (o := 1) (sz := 273) (us := (s.keep r x).st.cellsL (.slice da2 (s.keep r x).ps.length dc2)) S M 3 rfl k_ rfl rfl rfl (St.len hokK _) (St.one hokK _ rfl) rfl (by rw [yr hl, St.len hokK]; exact Nat.le_refl _) ?_; intro wz M
  replace M := M.s_
  rw [U9 hl hlK] at M
  refine gp [[4,1],[3],[930]] ?_
  replace M := (((M.drp 0).drp 0).drp 0).drp 1
  (revert h54; refine fun h54 : fl = false => ?_
   exact ⟨rfl, da2, dc2, lo2, hi2, cs2, es2, E2, by unfold Sh.keepD; rw [if_neg (by rw [h54]; decide)]; exact hE2, hBk2, M.sub (.cons_cons _ (.cons_cons _ ((List.Sublist.refl es2).append (List.sublist_append_right es _))))⟩)
 intro h54 S
 refine gp [[3,1,1,1]] ?_; intro a S
 refine qY S (Jf S k_ rfl (M.cell 3 rfl (Jbo _ _ _))) ?_; intro a S
 refine qD S rfl (Ub (A := _ :: _ :: _ :: _ :: _ ::  _ :: (es2 ++ (es ++ A))) hE2 (by simpa only [List.cons_append, List.append_assoc] using M) (by rw [vO]; exact hup) (fun k => by have h8 := jp (S := S0) (m := 5000) (V1 (r.enc x) s.n s.x.inc) (fun k => by have := hca k; omega) k; rw [zA] at h8; unfold nOf at h8; omega)) ?_
 rintro _ w13 ⟨rfl, E3, hE3, M1⟩; refine rv_ ?_; intro a S; have M := M1; clear M1
 simp only [List.cons_append, List.append_assoc] at M
 refine gp [[0,1],[4,1,1],[2],[941,61],[5,1]] ?_; intro a S
 refine qY S (Ja (k := 273) (cs := _) S k_ rfl (by with_reducible first | exact St.len hok _ | exact St.len hokA _ | exact St.len hokK _ | exact St.len JH _ | exact yr hl | exact JgU _) (M.cellsAt 0 rfl JC)) ?_
 refine gp [[0,1,2]] ?_; intro a S
 refine Ju (o := 1) (sz := 273) (us := (s.keep r x).st.cellsL (.slice da2 (s.keep r x).ps.length dc2)) S M 3 rfl k_ rfl rfl rfl (St.len hokK _) (St.one hokK _ rfl) rfl (by rw [yr hl, St.len hokK]; exact Nat.le_refl _) ?_; intro wz M
 replace M := M.s_
 rw [U9 hl hlK] at M
 refine gp [[4,1],[3],[930]] ?_
 replace M := (((M.drp 0).drp 0).drp 0).drp 1
 (revert h54; refine fun h54 : fl = true => ?_
  exact ⟨rfl, da2, dc2, lo2, hi2, cs2, es2, E3, by unfold Sh.keepD; rw [if_pos h54]; exact hE3, hBk2, M.sub (.cons_cons _ (.cons_cons _ ((List.Sublist.refl es2).append (List.sublist_append_right es _))))⟩)
end Go.Proofs.YtocppoflhllelaaGreat
