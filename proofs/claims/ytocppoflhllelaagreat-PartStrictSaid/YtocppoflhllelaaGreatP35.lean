/-
  What PartStrict rests on, part 35.
-/
import Derived.Test.YtocppoflhllelaaGreatP34
namespace Go.Proofs.YtocppoflhllelaaGreat
open Go.RowKit Go.Sort
theorem Jcc {ps : Pl} {n : Nm} (h : Vg ps n = true) : JO n ps ≠ none := by
 intro e
 unfold Vg at h
 rw [List.any_eq_true] at h
 obtain ⟨q, hq, hn⟩ := h
 induction ps with
 | nil => cases hq
 | cons p ps ih =>
   rw [JO] at e
   split at e
   ·cases e
   simp_all
theorem jD {ps : Pl} {n : Nm} (h : Vg ps n = false) : ∀ p ∈ ps, p.1.name ≠ n := fun p hp e => by
 grind [Vg, Nm.eqb_iff]
abbrev Qv (C : PxC) : Msg := Yx 7 C.m.name 0 0 false
def JcJ (C : PxC) (X X' : Px) (s s' : Sh) : Prop :=
 (s'.ps = s.ps ∧ s'.h = s.h ∧ (C.m.yes = true → ∀ p ∈ s.ps, p.1.name ≠ C.m.name) ∧ (X' = X ∨ X' = X.say C.self (Qv C) ∨ (∃ k q, X.lv[k]? = some q ∧ q.1.name = C.m.name ∧ X' = (X.less k).end_ C.self s.h q.1.name 121))) ∨
 ∃ k q, s.ps[k]? = some q ∧ q.1.name = C.m.name ∧ s'.ps = s.ps.eraseIdx k ∧ ((C.m.yes = true ∧ s'.h = onF s.h q.2 ∧ X' = (X.end_ C.self s'.h C.m.name 0).say C.self (Qv C)) ∨ (C.m.yes = false ∧ s'.h = s.h ∧ X' = X.end_ C.self s'.h C.m.name 121))
section
variable {w0 w : World} {A : List Ent} {C : PxC} {X : Px} {er : Int} {bd : Nat} {s : Sh} {Sd : DS}
theorem PxS.say (W : PxS w0 w A C X er bd s Sd) (hf : X.few) (m : Msg) : CT 129 #[pB C.b, .agg (m.cells Jz)] w fun e w' => e = .returned (.tuple #[]) ∧ PxS w0 w' A C (X.say C.self m) er bd s Sd :=
 W.call fun _ W => yD W hf m
set_option maxHeartbeats 2000000 in
theorem Jar {N : Int} {c o : Nat} (W : PxS w0 w A C X er bd s Sd) (hI : ShI Sd s N) (hN : N + 2 ≤ 1000) (hO : ShO s) (G : PxGo c o X) (hc : c ≤ 900) (ho2 : o ≤ 900) (hok : OkT X.h X.wt) :
 CT 81 #[pB C.b] w fun en w' => en = .returned (.tuple #[]) ∧ ∃ X' s' S', JcJ C X X' s s' ∧ ShO s' ∧ ShI S' s' (N + 2) ∧ PxS w0 w' A C X' er bd s' S' := by
 obtain ⟨da, dc, lo, hi, cs, es', E, D, es, hE, hQ, hI9, M⟩ := PxS.openL (L := []) W
 have hf := G.few o_ o_
 have hl := hf.lv
 have hI2 := hI.mono (M := N + 2) o_ hN
 replace M : Mem w0 w (D.ents X C er (es ++ stE C.bs bd s da dc lo hi cs (es' ++ (A ++ E)))) := M
 dsimp only [PxD.ents] at M
 refine qI Tryz.func81 52 ?_; intro a S
 refine Ds (rest := _) 0 (fun a w' => ∃ (bN : Nat) (X1 : Px) (s1 : Sh) (S1 : DS), JcJ C X (X1.say C.self (Qv C)) s s1 ∧ X1.few ∧ ShO s1 ∧ ShI S1 s1 (N + 2) ∧ Jk 52 a [(0, pB C.b), (2, p_ bN)] ∧ PxS w0 w' ([.blk bN C.m.name.cells 43] ++ A) C X1 er bd s1 S1) rfl ?_ ?_
 ·skip
  refine wp_seq ?_
  skip
  refine Yo (C := fun W => Blk W C.b (D.cells X C er) 106) [11] #[false, false, false, false, false, false, false, false, false, false, false, false, false] rfl M k_ ?_; intro w1 M; have hC := M.blk 0 rfl
  refine kcP 0 S hC ?_; intro a S
  refine kcP 1 S hC ?_; intro a S
  refine kcF 2 6 S hC ?_; intro a S
  refine kcF 3 5 S hC ?_; intro a S
  refine Yf 4 S rfl hC (fun w hW => have M := M.grow hW; qL3 S M 0) ?_; intro a S
  refine kcP 5 S hC ?_; intro a S
  refine kcP 6 S hC ?_; intro a S
  refine kcF 7 6 S hC ?_; intro a S
  refine kcF 8 20 S hC ?_; intro a S
  refine JT 9 S rfl hC (fun w hC => Jf S k_ rfl (show _ = some (Value.bool C.m.yes) from hC.cells 26)) ?_; intro a S
  refine VV 10 rfl k_ ?_
  refine qN S M Kg ?_; intro a w2 bN S M hB
  replace hC := M.blk 1 rfl
  refine nxC ⟨fun _ => hB, hC, ?_⟩
  refine VV 11 rfl k_ ?_
  refine go [[900,0]] ?_; intro a w3 S M
  replace hC := M.blk 1 rfl
  refine nxC ⟨fun h => absurd h d_, hC, ?_⟩
  refine kcP 12 S hC ?_; intro a S
  refine vS k_ ?_
  refine gp [[4,1],[902,0,3]] ?_; intro a S
  refine qD S rfl (zt (PxS.closeL (L := [.blk bN C.m.name.cells 43]) hE hQ hI9 M) hI C.m.name) ?_
  rintro _ w4 ⟨rfl, W1⟩; refine rv_ ?_; intro a S
  obtain ⟨da, dc, lo, hi, cs, es', E, D, es, hE, hQ, hI9, M⟩ := W1.openL
  replace M : Mem w0 w4 (.blk bN C.m.name.cells 43 :: D.ents X C er (es ++ stE C.bs bd s da dc lo hi cs (es' ++ (A ++ E)))) := M
  dsimp only [PxD.ents] at M
  refine nxC (qi 18 S ?_ ?_)
  ·intro h18 S
   refine go [[3],[910,6],[911,0,1,1,5,2],[912,4,0,3],[911,5,1]] ?_; intro a w5 S M
   refine k1_ 6 ?_
   refine qD S rfl (XE C.m.name C.m.yes (PxD.shm (L := [_]) hE hQ M) hI hO.inc) ?_
   rintro _ w6 ⟨e9, rfl, h9⟩; refine rv_ ?_; intro a S
   obtain ⟨rfl, k9, q9, s1, S1, hq9, hqn9, hp1, hh1, hI1, hO1, hM1⟩ : e9 = 0 ∧ ∃ k9 q9 s1 S1, s.ps[k9]? = some q9 ∧ q9.1.name = C.m.name ∧ s1.ps = s.ps.eraseIdx k9 ∧ s1.h = onF s.h (if C.m.yes = true then q9.2 else []) ∧ ShI S1 s1 (N + 2) ∧ ShO s1 ∧ PxS w0 w6 ([.blk bN C.m.name.cells 43] ++ A) C X er bd s1 S1 := by
    rcases h9 with ⟨h1, ⟨k9, hk9⟩, h3⟩ | ⟨-, -, h1, -⟩
    ·obtain ⟨q9, a1, a2, a3, a4, ⟨S1, a5, a6⟩, a7⟩ := JiY hI hN hk9 h3
     refine ⟨h1, k9, q9, _, S1, a1, a2, a4, a3, a5, ⟨?_, by rw [a7]; exact hO.inc, fun p hp => ?_⟩, D, es, hI9, a6⟩
     ·show Zw s.x.owned s.ps (r3 C.m.name C.m.yes) = 255
      unfold Zw
      split
      ·rw [show (r3 C.m.name C.m.yes).name = C.m.name from rfl, hk9]
       simp only [a1]
       obtain ⟨e1, e2⟩ := hO.ps q9 (List.mem_of_getElem? a1)
       rw [e1, e2, hO.own]; decide
      ·exact hO.own
     ·rw [a4] at hp; exact hO.ps p (List.mem_of_mem_eraseIdx hp)
    grind [Jcc]
   obtain ⟨da, dc, lo, hi, cs, es', E, D, es, hE, hQ, hI9, M⟩ := hM1.openL
   replace M := M.c_
   refine kn_ ?_
   refine Jj 7 S rfl (fun w => J2 S rfl rfl rfl) ?_
   refine gq [[2],[941,26],[6,1],[2],[940,27]] ?_ ?_
   ·intro a h27 S
    refine gp [[3,1],[902,0,3]] ?_; intro a S
    refine qD S rfl (Qn hM1 hI1 hO1.own G o_ o_ hok C.m.name 0) ?_
    rintro _ w7 ⟨rfl, W2⟩
    refine gp [[2]] ?_; intro a S
    refine wp_goto ?_
    refine VZ ?_
    refine VZ ?_
    refine JhA ?_
    exact ⟨bN, _, s1, S1, .inr ⟨k9, q9, hq9, hqn9, hp1, .inl ⟨h27, by rw [hh1, if_pos h27], rfl⟩⟩, (G.end_ hok C.self s1.h C.m.name 0).few o_ o_, hO1, hI1, S.sub _ rfl, W2⟩
   intro a h27 S
   refine gp [[5,1],[902,0,3]] ?_; intro a S
   refine qD S rfl (Qn hM1 hI1 hO1.own G o_ o_ hok C.m.name 121) ?_
   rintro _ w8 ⟨rfl, W2⟩
   refine gp [[4]] ?_; intro a S
   refine QO ?_
   refine JV S rfl ?_
   (refine ⟨rfl, _, s1, S1, .inr ⟨k9, q9, hq9, hqn9, hp1, .inr ⟨h27, ?_, rfl⟩⟩, hO1, hI1, W2.less (.cons _ (.refl _))⟩
    rw [hh1, h27]; rfl)
  intro h18 S
  refine gp [[6,1],[902,0,3]] ?_; intro a S
  refine qD S rfl (yL ⟨D, es, hI9, M.drop 0⟩ G.sort hf C.m.name) ?_
  rintro _ w9 ⟨k, y, rfl, hK, hF⟩; replace M := M.grow hK
  refine gq [[0,1,1,1,1,1],[4,1],[2],[940,40]] ?_ ?_
  ·intro a h40 S
   refine gq [[4,1,1],[2],[943,42]] ?_ ?_
   ·intro a h42 S
    refine gp [[5]] ?_; intro a S
    refine QO ?_
    refine JV S rfl ?_
    exact ⟨rfl, X, s, Sd, .inl ⟨rfl, rfl, fun _ => jD a_, .inl rfl⟩, hO, hI2, (PxS.closeL (L := [_]) hE hQ hI9 M).less (.cons _ (.refl _))⟩
   intro a h42 S
   refine cT S ?_
   obtain ⟨q, hq, hqn⟩ : ∃ q, X.lv[k]? = some q ∧ q.1.name = C.m.name := by
    obtain ⟨-, ⟨-, h⟩ | ⟨h, -⟩⟩ := hF
    ·exact h
    ·subst h; cases h40
   refine gp [[1,1,1]] ?_; intro a S
   refine qD S rfl (YN (PxS.closeL (L := [_]) hE hQ hI9 M) hI hO.own G o_ o_ hok k q hq 121) ?_
   rintro _ w10 ⟨rfl, W2⟩
   refine gp [[4]] ?_; intro a S
   refine QO ?_
   refine JV S rfl ?_
   exact ⟨rfl, _, s, Sd, .inl ⟨rfl, rfl, fun h => by first | (rw [h] at h42; cases h42; done) | (simp_all; done), .inr (.inr ⟨k, q, hq, hqn, rfl⟩)⟩, hO, hI2, W2.less (.cons _ (.refl _))⟩
  intro a h40 S
  refine gq [[6,1,1],[2],[940,47]] ?_ ?_
  ·intro a h47 S
   refine cT S (wp_ret (Yu (QO ?_)))
   refine JV S rfl ?_
   exact ⟨rfl, X, s, Sd, .inl ⟨rfl, rfl, fun _ => jD a_, .inl rfl⟩, hO, hI2, (PxS.closeL (L := [_]) hE hQ hI9 M).less (.cons _ (.refl _))⟩
  intro a h47 S
  refine gp [[4]] ?_; intro a S
  refine wp_label ?_
  refine gp [[2,1],[902,0,3]] ?_; intro a S
  refine qB_ cz8 cz0 S ?_; intro a S
  refine qD S rfl ((PxS.closeL (L := [_]) hE hQ hI9 M).say (by exact hf) (Qv C)) ?_
  rintro _ w11 ⟨rfl, W3⟩
  refine gp [[1]] ?_; intro a S
  refine Jdn ?_
  refine JD S rfl ?_
  exact ⟨rfl, _, s, Sd, .inl ⟨rfl, rfl, fun _ => jD a_, .inr (.inl rfl)⟩, hO, hI2, W3.less (.cons _ (.refl _))⟩
 intro a wc
 rintro ⟨bN, X1, s1, S1, hx, hf1, hO1, hI1, S, W1⟩
 obtain ⟨da, dc, lo, hi, cs, es', E, D, es, hE, hQ, hI9, M⟩ := PxS.openL W1
 replace M := M.c_
 refine gp [[4,1],[902,0,3]] ?_; intro a S
 refine qB_ cz8 cz0 S ?_; intro a S
 refine qD S rfl ((PxS.closeL (L := [_]) hE hQ hI9 M).say (by exact hf1) (Qv C)) ?_
 rintro _ w12 ⟨rfl, W3⟩
 refine gp [[1]] ?_; intro a S
 refine Jds ?_
 refine JD S rfl ?_
 exact ⟨rfl, _, s1, S1, hx, hO1, hI1, W3.less (.cons _ (.refl _))⟩
end
abbrev zb (C : PxC) (e : Int) : Msg := Yx 10 C.m.name 0 e false
abbrev JjM (n : Nm) : Rc := ⟨1, n, false, 0, 0, 0, 0, 0, 0⟩
def Px.ended (X : Px) (n : Nm) : Px := { X with el := X.el ++ [(n, true)] }
def JcI (C : PxC) (X X' : Px) (s s' : Sh) : Prop :=
 s'.ps = s.ps ∧ ((s'.h = s.h ∧ ∃ e, X' = X.say C.self (zb C e) ∨ ∃ k q e', X.lv[k]? = some q ∧ q.1.name = C.m.name ∧ X' = ((X.less k).end_ C.self s.h q.1.name e').say C.self (zb C e)) ∨
  ∃ k q, X.lv[k]? = some q ∧ q.1.name = C.m.name ∧ s'.h = onF s.h q.2 ∧ X' = (((X.less k).end_ C.self s'.h q.1.name 0).ended C.m.name).say C.self (zb C 0))
section
variable {w0 w : World} {A : List Ent} {C : PxC} {X : Px} {er : Int} {bd : Nat} {s : Sh} {Sd : DS}
set_option maxHeartbeats 2000000 in
theorem JeE {N : Int} {c o : Nat} (W : PxS w0 w A C X er bd s Sd) (hI : ShI Sd s N) (hN : N + 2 ≤ 1000) (hO : ShO s) (G : PxGo c o X) (hc : c ≤ 900) (ho2 : o ≤ 900) (hok : OkT X.h X.wt) :
 CT 82 #[pB C.b] w fun en w' => en = .returned (.tuple #[]) ∧ ∃ X' s' S', JcI C X X' s s' ∧ ShO s' ∧ ShI S' s' (N + 2) ∧ PxS w0 w' A C X' er bd s' S' := by
 obtain ⟨da, dc, lo, hi, cs, es', E, D, es, hE, hQ, hI9, M⟩ := PxS.openL (L := []) W
 have hf := G.few o_ o_
 have hl := hf.lv
 have hI2 := hI.mono (M := N + 2) o_ hN
 replace M : Mem w0 w (D.ents X C er (es ++ stE C.bs bd s da dc lo hi cs (es' ++ (A ++ E)))) := M
 dsimp only [PxD.ents] at M
 refine qI Tryz.func82 93 ?_
 refine gp [[2,1,1,7,6],[902,0,3]] ?_; intro a S
 refine qN S M Kg ?_; intro a w1 bN S M hB
 refine go [[900,0],[4,1],[4,1],[902,0,3]] ?_; intro a w2 S M
 refine qD S rfl (yL ⟨D, es, hI9, M.drop 0⟩ G.sort hf C.m.name) ?_
 rintro _ w3 ⟨k, y, rfl, hK, hF⟩; replace M := M.grow hK
 refine gp [[0,1,1,1,1,1],[4,1],[902,0,3]] ?_; intro a S
 refine qK S rfl (Qb ⟨D, es, hI9, M.drop 0⟩ hf C.m.name) M ?_; intro a w4 S hK M
 refine gp [[0,1,1,1,1,1],[2]] ?_; intro a S
 refine YI (fun a w' => ∃ (X1 : Px) (s1 : Sh) (S1 : DS) (e1 : Int), JcI C X (X1.say C.self (zb C e1)) s s1 ∧ X1.few ∧ ShO s1 ∧ ShI S1 s1 (N + 2) ∧ Jk 93 a [(0, pB C.b), (2, p_ bN), (3, .int .i64 e1)] ∧ PxS w0 w' ([.blk bN C.m.name.cells 43] ++ A) C X1 er bd s1 S1) ?_ ?_
 ·skip
  refine gq [[3,1,1],[2],[940,28]] ?_ ?_
  ·intro a h28 S
   refine gq [[3,1,1,1],[940,32]] ?_ ?_
   ·intro a h32 S
    refine gp [[0,0,0,1],[4,1,1],[3]] ?_; intro a S
    exact ⟨X, s, Sd, _, ⟨rfl, .inl ⟨rfl, _, .inl rfl⟩⟩, hf, hO, hI2, S.sub _ rfl, PxS.closeL (L := [_]) hE hQ hI9 M⟩
   intro a h32 S
   refine gq [[0,1,1,1],[2],[943,35]] ?_ ?_
   ·intro a h35 S
    refine gp [[4]] ?_; intro a S
    exact ⟨X, s, Sd, _, ⟨rfl, .inl ⟨rfl, _, .inl rfl⟩⟩, hf, hO, hI2, S.sub _ rfl, PxS.closeL (L := [_]) hE hQ hI9 M⟩
   intro a h35 S
   refine gp [[2,1,1],[3]] ?_; intro a S
   exact ⟨X, s, Sd, _, ⟨rfl, .inl ⟨rfl, _, .inl rfl⟩⟩, hf, hO, hI2, S.sub _ rfl, PxS.closeL (L := [_]) hE hQ hI9 M⟩
  intro a h28 S
  refine gq [[3,1,1,1],[2],[940,37]] ?_ ?_
  ·intro a h37 S
   refine gp [[4]] ?_; intro a S
   exact ⟨X, s, Sd, _, ⟨rfl, .inl ⟨rfl, _, .inl rfl⟩⟩, hf, hO, hI2, S.sub _ rfl, PxS.closeL (L := [_]) hE hQ hI9 M⟩
  intro a h37 S
  refine cF S (wp_seq ?_)
  obtain ⟨q, hq, hqn⟩ : ∃ q, X.lv[k]? = some q ∧ q.1.name = C.m.name := by
   obtain ⟨-, ⟨-, h⟩ | ⟨h, -⟩⟩ := hF
   ·exact h
   grind
  obtain ⟨lv, hrow, hws⟩ := hI9.lv.at hq
  replace hrow : (D.lcs.drop (k * 54)).take 54 = q.1.cellsL lv := hrow
  obtain ⟨va9, vc9, rfl, -⟩ := hws.form
  have hkl := (List.getElem?_eq_some_iff.1 hq).1
  refine gp [[1,1,1,1,3,2,1]] ?_; intro a S
  refine qY S (qX 59 54 S (M.readRow 4 rfl (by grind [maxLen]))) ?_; intro a S
  replace S := S.n_
  refine qG [5] S ?_; intro a S
  refine qY S (Jf S k_ rfl ((M.readRow 4 rfl (by grind [maxLen])).at_.row (i := k) hrow rfl 4 (by grind))) ?_
  refine gq [[0,1,1],[2],[940,40]] ?_ ?_
  ·intro a h40 S
   refine gp [[2,1,1]] ?_; intro a S
   refine qD S rfl (YN (PxS.closeL (L := [_]) hE hQ hI9 M) hI hO.own G o_ o_ hok k q hq 121) ?_
   rintro _ w5 ⟨rfl, W2⟩; refine rv_ ?_; intro a S
   replace S := S.keep [0, 2, 3, 4, 5, 6, 7, 28, 37, 40]
   refine gp [[3]] ?_; intro a S
   exact ⟨_, s, Sd, 121, ⟨rfl, .inl ⟨rfl, 121, .inr ⟨k, q, 121, hq, hqn, rfl⟩⟩⟩, ((G.less k).end_ hok C.self s.h q.1.name 121).few o_ o_, hO, hI2, S.sub _ rfl, W2⟩
  intro a h40 S
  refine go [[2],[910,15],[911,0,1,1,5,2],[912,4,0,3],[911,5,1,1,1,3,2,1]] ?_; intro a w6 S M
  refine kR 11 S rfl M (fun w M => qX 59 54 S (M.readRow 4 rfl (by grind [maxLen]))) ?_; intro a S
  replace S := S.n_
  refine kF 12 53 S ?_; intro a S
  refine kR 13 S rfl M (fun w M => Jf S k_ rfl ((M.readRow 4 rfl m_).at_.row (i := k) hrow rfl 53 (by show 53 < 54; omega))) ?_; intro a S
  refine Jj 14 S rfl (fun w => JW (ps := [(0, .const (.int .i8 1)), (1, .tmp 59), (3, .tmp 68)]) (pl := Gs) (z := cz7) (cs := [_, _, _, _, _, _, _, _, _, _, _, _]) S k_ rfl (rfl)) ?_; intro a S
  refine k1_ 15 ?_
  refine qD S rfl (Jae (JjM C.m.name) va9 vc9 q.2 (PxD.shm (L := [_]) hE hQ M) hI hN hO.inc (by show (0 : Int) ≤ 9223372036854775807; decide) (fun W9 M9 => (hws.ws M9 (fun e he => by simp [he])).wide (Nat.zero_le _) (Nat.le_refl _))) ?_
  rintro _ w7 ⟨e9, rfl, h9⟩; refine rv_ ?_; intro a S
  obtain ⟨s1, S1, hM1, hI1, hO1, hp1, hcase⟩ : ∃ s1 S1, PxS w0 w7 ([.blk bN C.m.name.cells 43] ++ A) C X er bd s1 S1 ∧ ShI S1 s1 (N + 2) ∧ ShO s1 ∧ s1.ps = s.ps ∧ ((e9 = 0 → s1.h = onF s.h q.2) ∧ (¬ e9 = 0 → s1.h = s.h)) := by
   rcases h9 with ⟨h1, h2, h3⟩ | ⟨h1, h2⟩
   ·obtain ⟨s1, a1, a2, a3, ⟨S1, a4, a5⟩, a6⟩ := Jew hI hN h2 h3
    exact ⟨s1, S1, ⟨D, es, hI9, a5⟩, a4, ⟨a3.trans hO.own, by rw [a6]; exact hO.inc, fun p hp => hO.ps p (by rw [← a2]; exact hp)⟩, a2, fun _ => a1, fun h => absurd h1 h⟩
   ·exact ⟨s, Sd, ⟨D, es, hI9, h2⟩, hI2, hO, rfl, fun h => by omega, fun _ => rfl⟩
  refine kn_ ?_
  refine Jj 16 S rfl (fun w => J2 S rfl rfl rfl) ?_; intro a S
  refine kP 17 S ?_; intro a S
  refine kE_ ?_
  replace S := S.keep [0, 2, 3, 4, 5, 6, 7, 28, 37, 40, 54]
  refine Jn (qf 54 S ?_ ?_)
  ·intro h54 S
   refine gp [[3,1],[3,1,1]] ?_; intro a S
   refine qD S rfl (YN hM1 hI1 hO1.own G o_ o_ hok k q hq 50) ?_
   rintro _ w13 ⟨rfl, W2⟩; refine rv_ ?_; intro a S
   refine wpList_nil (Jy (Jn ?_))
   exact ⟨_, s1, S1, 50, ⟨hp1, .inl ⟨hcase.2 a_, 50, .inr ⟨k, q, 50, hq, hqn, by rw [← hcase.2 a_]⟩⟩⟩, ((G.less k).end_ hok C.self s1.h q.1.name 50).few o_ o_, hO1, hI1, S.sub _ rfl, W2⟩
  intro h54 S
  refine gp [[3,1],[4,1,1]] ?_; intro a S
  refine qD S rfl (YN hM1 hI1 hO1.own G o_ o_ hok k q hq 0) ?_
  rintro _ w8 ⟨rfl, W2⟩; refine rv_ ?_; intro a S
  refine nxC ?_
  have hf2 := ((G.less k).end_ hok C.self s1.h q.1.name 0).few o_ o_
  have hfe := hf2.el
  obtain ⟨X2, hX2⟩ : ∃ X2, X2 = (X.less k).end_ C.self s1.h q.1.name 0 := ⟨_, rfl⟩
  rw [← hX2] at W2 hf2 hfe
  have hel : X2.el.length ≤ 10 := by rw [hX2]; exact ((G.less k).end_ hok C.self s1.h q.1.name 0).el
  obtain ⟨da, dc, lo, hi, cs, es', E, D, es, hE, hQ, hI9, M⟩ := PxS.openL W2
  replace M : Mem w0 w8 (.blk bN C.m.name.cells 43 :: D.ents X2 C er (es ++ stE C.bs bd s1 da dc lo hi cs (es' ++ (A ++ E)))) := M
  dsimp only [PxD.ents] at M
  refine go [[910,9,13],[911,0,1,1,1,31,3,2],[912,6,0,3]] ?_; intro a w9 S M
  refine Jj 7 S rfl (fun w => JW (ps := [(0, .tmp 81), (1, .const (.bool true))]) (pl := [(0, 3), (3, 1)]) (z := Jgo) (cs := [_, _, _, _]) S k_ rfl (rfl)) ?_; intro a S
  refine k1_ 8 ?_
  refine JG (ps := [(0, .tmp 82)]) (e := 235) (sz := 4) (zl := Jgo) (cs := [_, _, _, _]) S M rfl rfl k_ rfl (rfl) ?_; intro a w10 bZ S M hB
  refine kH_ hB ?_
  refine k1_ 9 ?_
  refine qP_ (e := 235) (sz := 4) (by_ := 32) (zc := Jgo) S M 8 rfl rfl rfl (show Rd _ _ _ 4 _ 1 [.int .i64 C.m.name.stamp, .int .i64 C.m.name.inc, .int .i64 C.m.name.try_, .bool true] from M.sliceAt 0 rfl (M.cellsAt (k := 4) 0 rfl rfl) rfl (Nat.le_refl _) m_) ?_; intro a w11 vA loA hiA S M
  refine kn_ ?_
  refine gp [[911,10,1,31,3]] ?_; intro a S
  refine k1_ 13 ?_
  obtain ⟨aA, cA, rfl, -, -⟩ := (M.readAll 0 rfl m_).form
  replace M := M.drp 1
  replace M := M.od [7, 7, 7, 7, 7, 7, 7]
  refine go [[900,1]] ?_; intro a w12 S M
  refine kn_ ?_
  refine gp [[3]] ?_; intro a S
  (have eE : (X2.ended C.m.name).el.length = X2.el.length + 1 := by unfold Px.ended; simp
   have W5 : PxS w0 _ ([_] ++ A) C (X2.ended C.m.name) er bd s1 S1 := PxS.closeL (da := da) (dc := dc) (lo := lo) (hi := hi) hE hQ (D := { D with ea := aA, ec := cA, e1 := loA, e2 := hiA, ecs := _ }) ⟨hI9.lv, hI9.ov, hI9.ml, hI9.el.more (q := (C.m.name, true)) (lv := Jz) (.inl ⟨rfl, rfl⟩)⟩ (by dsimp only [PxD.ents, PxD.cells]; rw [eE]; exact M)
   exact ⟨X2.ended C.m.name, s1, S1, 0, ⟨hp1, .inr ⟨k, q, hq, hqn, hcase.1 a_, by rw [← hX2]⟩⟩, ⟨hf2.lv, hf2.ov, hf2.ml, by rw [eE]; omega, hf2.h, hf2.wt⟩, hO1, hI1, S.sub _ rfl, W5⟩)
 intro a wc
 rintro ⟨X1, s1, S1, e1, hx, hf1, hO1, hI1, S, W1⟩
 obtain ⟨da, dc, lo, hi, cs, es', E, D, es, hE, hQ, hI9, M⟩ := PxS.openL W1
 replace M := M.c_
 refine gp [[1,1],[902,0,3],[0,1]] ?_; intro a S
 refine qB_ cz8 cz0 S ?_; intro a S
 refine qD S rfl ((PxS.closeL (L := [_]) hE hQ hI9 M).say hf1 (zb C e1)) ?_
 rintro _ w14 ⟨rfl, W3⟩; refine rv_ ?_; intro a S
 refine wpList_nil (JD S rfl ?_)
 exact ⟨rfl, _, s1, S1, hx, hO1, hI1, W3.less (.cons _ (.refl _))⟩
end
def byF (k : Int) : FuncId := if k = 2 then 79 else if k = 4 then 80 else if k = 6 then 81 else 82
abbrev byV (k : Int) (b : Nat) : Value := .func (.func (byF k)) #[p_ b] #[]
abbrev byT (b : Nat) : List Value := [.nilFunc, .func (.func 78) #[p_ b] #[], byV 2 b, .nilFunc, byV 4 b, .nilFunc, byV 6 b, .nilFunc, .nilFunc, byV 9 b]
theorem JeT {k : Int} {b : Nat} (h : k = 2 ∨ k = 4 ∨ k = 6 ∨ k = 9) : (byT b).toArray[k.toNat]? = some (byV k b) := by
 rcases h with rfl | rfl | rfl | rfl <;> rfl
theorem JeU {k : Int} (h : k = 2 ∨ k = 4 ∨ k = 6 ∨ k = 9) : VL Tryz.prog (byF k) := by
 rcases h with rfl | rfl | rfl | rfl
 ·exact Ji Tryz.func79 d_ rfl
 ·exact Ji Tryz.func80 d_ rfl
 ·exact Ji Tryz.func81 d_ rfl
 ·exact Ji Tryz.func82 d_ rfl
abbrev XK : Msg := Yx 11 ⟨0, 0, 0⟩ 0 0 false
section
variable {w0 w : World} {A : List Ent} {C : PxC} {X : Px} {er : Int} {bd : Nat} {s : Sh} {Sd : DS}
theorem PxS.ping (W : PxS w0 w A C X er bd s Sd) (hf : X.few) : CT 78 #[pB C.b] w fun e w' => e = .returned (.tuple #[]) ∧ PxS w0 w' A C (X.say C.self XK) er bd s Sd :=
 W.call fun _ W => JdT W hf
set_option maxHeartbeats 1000000 in
theorem Jej {R : Px → Sh → DS → Prop} (W : PxS w0 w A C X er bd s Sd) (hf : X.few) (hk : C.m.kind = 2 ∨ C.m.kind = 4 ∨ C.m.kind = 6 ∨ C.m.kind = 9) (hfr : C.m.frm = 0)
 (H : ∀ (L : List Ent) (W' : World), PxS w0 W' (L ++ A) C X er bd s Sd → C.m.your ≠ 0 → CT (byF C.m.kind) #[pB C.b] W' fun e w'' => e = .returned (.tuple #[]) ∧ ∃ X' s' S', R X' s' S' ∧ PxS w0 w'' (L ++ A) C X' er bd s' S') :
 CT 37 #[pB C.b] w fun e w' => e = .returned (.tuple #[]) ∧ ∃ X' s' S', ((C.m.your ≠ 0 ∧ R X' s' S') ∨ (C.m.your = 0 ∧ X' = X.say C.self XK ∧ s' = s ∧ S' = Sd)) ∧ PxS w0 w' A C X' er bd s' S' := by
 obtain ⟨da, dc, lo, hi, cs, es', E, D, es, hE, hQ, hI9, M⟩ := PxS.openL (L := []) W
 replace M : Mem w0 w (D.ents X C er (es ++ stE C.bs bd s da dc lo hi cs (es' ++ (A ++ E)))) := M
 dsimp only [PxD.ents] at M
 refine qI Tryz.func37 55 ?_
 refine gp [[2,1]] ?_; intro a S
 refine qY S (Jx (fs := [.tmp 3]) (cs := []) S rfl rfl) ?_
 refine gp [[0,1]] ?_; intro a S
 refine qY S (Jx (fs := [.tmp 5]) (cs := []) S rfl rfl) ?_
 refine gp [[0,1]] ?_; intro a S
 refine qY S (Jx (fs := [.tmp 7]) (cs := []) S rfl rfl) ?_
 refine gp [[0,1]] ?_; intro a S
 refine qY S (Jx (fs := [.tmp 9]) (cs := []) S rfl rfl) ?_
 refine gp [[0,1]] ?_; intro a S
 refine qY S (Jx (fs := [.tmp 11]) (cs := []) S rfl rfl) ?_; intro a S
 refine qY S (V5 (ps := [(1, .tmp 4), (2, .tmp 6), (4, .tmp 8), (6, .tmp 10), (9, .tmp 12)]) (sz := 1) (z := [.nilFunc, .nilFunc, .nilFunc, .nilFunc, .nilFunc, .nilFunc, .nilFunc, .nilFunc, .nilFunc, .nilFunc]) (cs := [_, _, _, _, _, _, _, _, _, _]) S k_ rfl rfl) ?_; intro a S
 refine qN S M #[.nilFunc, .nilFunc, .nilFunc, .nilFunc, .nilFunc, .nilFunc, .nilFunc, .nilFunc, .nilFunc, .nilFunc] ?_; intro a w1 bT S M hB
 refine go [[900,0],[4]] ?_; intro a w2 S M
 have hk9 : 0 ≤ C.m.kind ∧ C.m.kind ≤ 9 := by omega
 refine gp [[1,1,1,7,2,2]] ?_; intro a S
 rw [hfr] at S
 refine qY S (J2 S rfl rfl rfl) ?_
 refine gp [[0,1],[941,20],[0,1,1,7,1,2]] ?_; intro a S
 (refine qY S (zG S rfl k_ k_ o_) ?_); intro a S
 refine gp [[0,1,1,1],[941,29],[0,1,1,7,1,2],[906,10,1]] ?_; intro a S
 refine qY S (Jf S k_ rfl (M.cell 0 rfl (JeT hk))) ?_; intro a S
 refine qY S (JcT Tryz.underlying1 k_ S rfl rfl) ?_
 refine gq [[0,1],[2],[941,38],[6,1,1,7,5,2,1],[2],[940,44]] ?_ ?_
 ·intro a h44 S
  refine gp [[3,1]] ?_; intro a S
  refine qD S rfl ((PxS.closeL (L := [_]) hE hQ hI9 M).ping hf) ?_
  rintro _ w3 ⟨rfl, W2⟩
  refine gp [[4]] ?_; intro a S
  refine JV S rfl ?_
  exact ⟨rfl, _, s, Sd, .inr ⟨by omega, rfl, rfl, rfl⟩, W2.less (.cons _ (.refl _))⟩
 intro a h44 S
 refine gp [[4,1,1,7,1,2],[906,10,1]] ?_; intro a S
 refine qY S (Jf S k_ rfl (M.cell 0 rfl (JeT hk))) ?_; intro a S
 refine JR (xs := []) (fi := [_]) (ca := []) S (JeU hk) rfl rfl (rfl) rfl (H [_] _ (PxS.closeL (L := [_]) hE hQ hI9 M) o_) ?_
 rintro _ w4 ⟨rfl, X', s', S', hR, W2⟩
 refine gp [[1]] ?_; intro a S
 refine JD S rfl ?_
 exact ⟨rfl, X', s', S', .inl ⟨by omega, hR⟩, W2.less (.cons _ (.refl _))⟩
end
theorem Jck (v : Value) (m : Nat) (cs : List Value) (w : World) (hv : Rd 0 w.heap.size w 54 v m cs) (hl : m ≤ 1000000) (h1 : Jp cs = true) : CT 76 #[v] w fun e w' => ∃ v', e = .returned v' ∧ Fresh w w' 59 54 v' m cs := by
 have M := Mem.start w
 refine qI Tryz.func76 8 ?_
 refine gp [[2,1],[5,1]] ?_; intro a S
 refine qY S (ZJ (e := 59) S rfl (M.arg hv) k_) ?_; intro a S
 refine nxC (Js (t := 4) S rfl ?_ ?_)
 ·intro h4 S
  refine gp [[3,1],[4],[930]] ?_
  obtain ⟨rfl, h0, h1⟩ := hv.nilV h4
  exact ⟨_, rfl, by rw [h1, h0]; exact M.freshNil _ _⟩
 intro h4 S
 refine cF S (wp_skip (nxE (jJ (e := 59) (sz := 54) (by_ := 368) (zc := cz1) S M rfl rfl k_ ?_))); intro a w1 b1 S M hB
 refine qG [1] S ?_; intro a S
 replace M := M.toRow (sz := 54) (m := 0) (cap := 0) (xs := []) 0 rfl rfl (Nat.le_refl _) (Nat.zero_le _) rfl rfl
 refine JI (e := 59) (sz := 54) (by_ := 368) (zc := cz1) S M 0 rfl rfl k_ rfl d_ rfl rfl rfl (M.arg hv) (h1) o_ (by grind [maxLen]) ?_; intro a w2 vA loA hiA S M
 refine gp [[0,1],[3],[930]] ?_
 exact ⟨_, rfl, by have := M.fresh 0 rfl; grind⟩
theorem Jau (v : Value) (m : Nat) (cs : List Value) (w : World) (hv : Rd 0 w.heap.size w 4 v m cs) (hl : m ≤ 1000000) (h1 : Jp cs = true) : CT 77 #[v] w fun e w' => ∃ v', e = .returned v' ∧ Fresh w w' 160 4 v' m cs := by
 have M := Mem.start w
 refine qI Tryz.func77 8 ?_
 refine gp [[2,1],[5,1]] ?_; intro a S
 refine qY S (ZJ (e := 160) S rfl (M.arg hv) k_) ?_; intro a S
 refine nxC (Js (t := 4) S rfl ?_ ?_)
 ·intro h4 S
  refine gp [[3,1],[4],[930]] ?_
  obtain ⟨rfl, h0, h1⟩ := hv.nilV h4
  exact ⟨_, rfl, by rw [h1, h0]; exact M.freshNil _ _⟩
 intro h4 S
 refine cF S (wp_skip (nxE (jJ (e := 160) (sz := 4) (by_ := 32) (zc := Kh) S M rfl rfl k_ ?_))); intro a w1 b1 S M hB
 refine qG [1] S ?_; intro a S
 replace M := M.toRow (sz := 4) (m := 0) (cap := 0) (xs := []) 0 rfl rfl (Nat.le_refl _) (Nat.zero_le _) rfl rfl
 refine JI (e := 160) (sz := 4) (by_ := 32) (zc := Kh) S M 0 rfl rfl k_ rfl d_ rfl rfl rfl (M.arg hv) (h1) o_ (by grind [maxLen]) ?_; intro a w2 vA loA hiA S M
 refine gp [[0,1],[3],[930]] ?_
 exact ⟨_, rfl, by have := M.fresh 0 rfl; grind⟩
theorem Wf {ck row rest us : List Value} {k j z : Nat} (hk : ck.length = k * z) (hr : row.length = z) (hj : j + us.length ≤ z) : Jt (ck ++ (row ++ rest)) (k * z + j) us = ck ++ (Jt row j us ++ rest) := by
 grind [Nat.add_mul, JaI]
theorem JiO (q : Lv) (lv : Value) : Jt (q.cellsL lv) 28 [Jz] = q.cellsL lv := by kernel_rfl
theorem JiM (q : Lv) (ea : Option Addr) (ec : Nat) (lv : Value) : Jt (q.cellsL lv) 52 [.slice ea 0 ec] = ({ q with ea := ea, ec := ec } : Lv).cellsL lv := by kernel_rfl
def Lr.nz (q : Lr) : Lr := ({ q.1 with ea := none, ec := 0 }, q.2)
theorem RowC.bk {α : Type} {S : Shp α} {cs : List Value} {lo hi : Nat} {w : World} {v : Value} {l : List α} {es : List Ent} (h : RowC S cs lo hi w v l) (h1 : Jp cs = true) (hw : ∀ q, S.wr q = []) (hf : ∀ q lv, S.f q lv = S.f q Jz) : BkG S cs l es :=
 ⟨h.1.1, h1, fun i q hq => by obtain ⟨lv, e, -⟩ := h.2 i q hq; exact ⟨Jz, e.trans (hf q lv), .inl ⟨rfl, hw q⟩⟩⟩
set_option maxHeartbeats 4000000 in
theorem Jas (ha wa la oa : Option Addr) (hc wc lc oc : Nat) (X : Px) (lcs ocs : List Value) (w : World) (hh : LsL 0 w.heap.size w (.slice ha X.h.length hc) X.h) (hw : LsL 0 w.heap.size w (.slice wa X.wt.length wc) X.wt) (hl : RowC lvS lcs 0 w.heap.size w (.slice la X.lv.length lc) X.lv) (ho : RowC doS ocs 0 w.heap.size w (.slice oa X.ov.length oc) X.ov)
 (hf : X.few) (h1 : Jp lcs = true) (h2 : Jp ocs = true) (hwr : ∀ q ∈ X.lv, q.2.length ≤ 1000000) (hzs : ∀ q ∈ X.lv, ZSl q.1.ea q.1.ec) :
 CT 36 #[.agg #[.slice ha X.h.length hc, .slice wa X.wt.length wc, .slice la X.lv.length lc, .slice oa X.ov.length oc]] w fun e w' => ∃ (a1 a2 a3 a4 : Option Addr) (c1 c2 c3 c4 l1 k1 l2 k2 l3 k3 l4 k4 : Nat) (lcs' : List Value) (lv' : List Lr) (es : List Ent),
  e = .returned (.agg #[.slice a1 X.h.length c1, .slice a2 X.wt.length c2, .slice a3 X.lv.length c3, .slice a4 X.ov.length c4]) ∧ lv'.map Lr.nz = X.lv.map Lr.nz ∧ (∀ q ∈ lv', ZSl q.1.ea q.1.ec) ∧ BkG lvS lcs' lv' es ∧
  Mem w w' (Jd l1 k1 110 5 (.slice a1 X.h.length c1) X.h.length (Jg X.h) :: Jd l2 k2 110 5 (.slice a2 X.wt.length c2) X.wt.length (Jg X.wt) :: Jd l3 k3 59 54 (.slice a3 X.lv.length c3) X.lv.length lcs' :: Jd l4 k4 160 4 (.slice a4 X.ov.length c4) X.ov.length ocs :: es) := by
 have M := Mem.start w
 have f1 := hf.lv
 have f2 := hf.ov
 have f3 := hf.h
 have f4 := hf.wt
 have hcl : lcs.length = X.lv.length * 54 := hl.1.1
 refine qI Tryz.func36 63 ?_; intro a S
 refine nxD (qW_ S M ?_); intro a w1 bP S M hB
 refine qN S M zx ?_; intro a w2 bZ S M hB
 refine go [[3],[910,10],[911,0,1,1,2],[911,4,1,2,2]] ?_; intro a w3 S M
 refine k1_ 3 ?_
 refine qD S rfl (ym _ X.h _ (M.argW hh) o_) ?_
 rintro _ w4 ⟨v2, rfl, hF⟩; refine rv_ ?_; intro a S
 obtain ⟨a1, c1, rfl, -, -⟩ := (hF.rd (by grind [maxLen])).form
 obtain ⟨l1, k1, -, M1⟩ := M.pushFresh hF; have hK := hF.below; clear M; have M := M1; clear M1
 refine kH_ hK ?_
 refine k1_ 7 ?_
 refine qD S rfl (ym _ X.wt _ (M.argW hw) o_) ?_
 rintro _ w5 ⟨v3, rfl, hF⟩; refine rv_ ?_; intro a S
 obtain ⟨a2, c2, rfl, -, -⟩ := (hF.rd (by grind [maxLen])).form
 obtain ⟨l2, k2, -, M1⟩ := M.pushFresh hF; have hK := hF.below; clear M; have M := M1; clear M1
 refine kH_ hK ?_
 refine Jj 8 S rfl (fun w => JW (ps := [(0, .tmp 8), (1, .tmp 12)]) (pl := VD) (z := Kf) (cs := [_, _]) S k_ rfl (rfl)) ?_
 refine go [[911,9,1],[914,10,3],[4,3,4]] ?_; intro a w6 S M
 refine qD S rfl (Jck _ X.lv.length lcs _ (M.argW hl.1) o_ h1) ?_
 rintro _ w7 ⟨v4, rfl, hF⟩; refine rv_ ?_; intro a S
 obtain ⟨a3, c3, rfl, -, -⟩ := (hF.rd (by grind [maxLen])).form
 obtain ⟨l3, k3, -, M1⟩ := M.pushFresh hF; clear M; have M := M1; clear M1
 refine go [[0,3],[900,4],[4]] ?_; intro a w8 S M
 replace M := M.od [3, 2, 3, 4, 4]
 refine gp [[1,3,2],[903,59],[0,1],[3]] ?_; intro a S
 refine Jc (fun m a w' => ∃ (i : Nat) (ck : List Value) (lk : List Lr) (es : List Ent) (l3 k3 : Nat), i ≤ X.lv.length ∧ m = X.lv.length - i ∧ lk.length = i ∧ lk.map Lr.nz = (X.lv.take i).map Lr.nz ∧ (∀ q ∈ lk, ZSl q.1.ea q.1.ec) ∧ BkG lvS ck lk es ∧ Jk 63 a [(1, p_ bP), (2, p_ bZ), (21, .int .i64 (X.lv.length : Int)), (22, .int .i64 (i : Int))] ∧ Mem w w' (Jd l3 k3 59 54 (.slice a3 X.lv.length c3) X.lv.length (ck ++ lcs.drop (i * 54)) :: .blk bP #[.slice a1 X.h.length c1, .slice a2 X.wt.length c2, .slice a3 X.lv.length c3, .slice oa X.ov.length oc] 34 :: Jd l1 k1 110 5 (.slice a1 X.h.length c1) X.h.length (Jg X.h) :: Jd l2 k2 110 5 (.slice a2 X.wt.length c2) X.wt.length (Jg X.wt) :: .blk bZ #[Jz, Jz, Jz, Jz] 34 :: es)) (X.lv.length) ?_ ?_
 ·skip
  exact ⟨0, [], [], [], l3, k3, Nat.zero_le _, rfl, rfl, rfl, fun q hq => (by cases hq), BkG.nil, S.sub _ rfl, M⟩
 intro m a wl
 rintro ⟨i, ck, lk, es, l3, k3, hi, rfl, hlk, hnz, hz9, hB, S, M⟩
 refine gq [[2,1],[3],[943,23]] ?_ ?_
 ·intro a h23 S
  refine gp [[7]] ?_; intro a S
  obtain rfl : i = X.lv.length := by omega
  rw [List.drop_of_length_le o_, List.append_nil] at M
  rw [List.take_length] at hnz
  refine gp [[1,4,2]] ?_; intro a S
  refine qD S rfl (Jau _ X.ov.length ocs _ (M.argW ho.1) o_ h2) ?_
  rintro _ w12 ⟨v7, rfl, hF⟩; refine rv_ ?_; intro a S
  obtain ⟨a4, c4, rfl, -, -⟩ := (hF.rd (by grind [maxLen])).form
  obtain ⟨l4, k4, -, M1⟩ := M.pushFresh hF; clear M; have M := M1; clear M1
  refine go [[0,4],[900,2],[4],[902,2,4],[900,5],[3]] ?_; intro a w14 S M
  refine Vb S rfl (rA_ 4 5 M) ?_
  skip
  replace M := (M.drp 2).drp 4
  replace M := M.od [1, 3, 3]
  grind
 intro a h23 S
 refine gp [[6]] ?_; intro a S
 have hi' : i < X.lv.length := by omega
 obtain ⟨q, hq⟩ : ∃ q, X.lv[i]? = some q := ⟨_, List.getElem?_eq_getElem hi'⟩
 have hqm := List.mem_of_getElem? hq
 obtain ⟨ad, cp, hrow, hws⟩ := hl.sl hq
 replace hrow : (lcs.drop (i * 54)).take 54 = q.1.cellsL (.slice ad q.2.length cp) := hrow
 have hck : ck.length = i * 54 := by rw [hB.1, hlk]
 have hdr : lcs.drop (i * 54) = q.1.cellsL (.slice ad q.2.length cp) ++ lcs.drop ((i + 1) * 54) := by
  grind [List.drop_drop, List.take_append_drop]
 have hrl : ∀ (x : Lv) (v : Value), (ck ++ (x.cellsL v ++ lcs.drop ((i + 1) * 54))).length = X.lv.length * 54 := fun x v => by rw [List.length_append, List.length_append, hck, List.length_drop, hcl, show (x.cellsL v).length = 54 from rfl]; omega
 have hrw : ∀ (x : Lv) (v : Value), ((ck ++ (x.cellsL v ++ lcs.drop ((i + 1) * 54))).drop (i * 54)).take 54 = x.cellsL v := fun x v => by rw [List.drop_left' hck, List.take_left' (show (x.cellsL v).length = 54 from rfl)]
 rw [hdr] at M
 refine gp [[1,1,1],[4,3,2,1]] ?_; intro a S
 refine qY S (qX 59 54 S (M.readRow 0 rfl m_)) ?_; intro a S
 replace S := S.n_
 refine gp [[0,1],[4,1,1,1,6,24]] ?_; intro a S
 refine qY S (Jf S k_ rfl (((M.readRow 0 rfl m_).at_.row (i := i) (hrw _ _) rfl) 28 (by show 28 < 54; omega))) ?_; intro a S
 refine qK S rfl (GE _) M ?_; intro a w9 S hK M
 refine qG [1, 6, 24] S ?_; intro a S
 refine Vh (v := .slice a3 X.lv.length c3) (sz := 54) (m := X.lv.length) (j := i * 54 + 28) (us := [Jz]) S M 0 rfl k_ rfl rfl (by rfl) rfl rfl rfl rfl rfl o_ (hrl _ _) (by rw [hrl]; show i * 54 + 28 + 1 ≤ _; omega) ?_; intro wz lo8 hi8 M
 replace M := M.e_
 rw [Wf (z := 54) hck rfl (by show 28 + 1 ≤ 54; omega), JiO] at M
 replace S := S.keep [1, 2, 21, 22, 23, 3, 4]
 refine gp [[4,1,1,1,30,24]] ?_; intro a S
 refine qY S (Jf S k_ rfl (((M.readRow 0 rfl m_).at_.row (i := i) (hrw _ _) rfl) 52 (by show 52 < 54; omega))) ?_; intro a S
 refine qD S rfl (ve _ [] _ (hzs q hqm).ws d_) ?_
 rintro _ w10 ⟨v5, rfl, hF⟩; refine rv_ ?_; intro a S
 obtain ⟨a5, c5, rfl, -, -⟩ := (hF.rd0 (by unfold maxLen; decide)).form
 have hz5 : ZSl a5 c5 := (hF.rd (by unfold maxLen; decide)).zsl
 replace M := M.grow hF.below
 refine qG [1, 30, 24] S ?_; intro a S
 refine Vh (v := .slice a3 X.lv.length c3) (sz := 54) (m := X.lv.length) (j := i * 54 + 52) (us := [.slice a5 0 c5]) S M 0 rfl k_ rfl rfl (by rfl) rfl rfl rfl rfl rfl o_ (hrl _ _) (by rw [hrl]; show i * 54 + 52 + 1 ≤ _; omega) ?_; intro wz lo7 hi7 M
 replace M := M.e_
 rw [Wf (z := 54) hck rfl (by show 52 + 1 ≤ 54; omega), JiM] at M
 refine gp [[3,1,1,1,54]] ?_; intro a S
 refine qY S (Jf S k_ rfl (((M.readRow 0 rfl m_).at_.row (i := i) (hrw _ _) rfl) 53 (by show 53 < 54; omega))) ?_; intro a S
 refine qD S rfl (ve _ q.2 _ (M.argW hws) (hwr q hqm)) ?_
 rintro _ w11 ⟨v6, rfl, hF⟩; refine rv_ ?_; intro a S
 obtain ⟨a6, c6, rfl, -, -⟩ := (hF.rd (by have := hwr q hqm; unfold maxLen; omega)).form
 obtain ⟨l6, k6, -, M1⟩ := M.pushFresh hF; clear M; have M := M1; clear M1
 refine qG [1, 54] S ?_; intro a S
 refine Vh (v := .slice a3 X.lv.length c3) (sz := 54) (m := X.lv.length) (j := i * 54 + 53) (us := [.slice a6 q.2.length c6]) S M 1 rfl k_ rfl rfl (by rfl) rfl rfl rfl rfl rfl o_ (hrl _ _) (by rw [hrl]; show i * 54 + 53 + 1 ≤ _; omega) ?_; intro wz lo6 hi6 M
 replace M := M.e_
 rw [Wf (z := 54) hck rfl (by show 53 + 1 ≤ 54; omega), JgT, ← List.append_assoc] at M
 replace S := S.keep [1, 2, 21, 22, 23, 3, 4]
 refine gp [[4],[901],[0,1],[2]] ?_; intro a S
 replace M := M.od [1, 5, 5, 5, 5, 5]
 have hB2 := (hB.mono (es' := Jd l6 k6 108 9 (.slice a6 q.2.length c6) q.2.length (JM q.2) :: es) (fun e he => .tail _ he)).more (q := ({ q.1 with ea := a5, ec := c5 }, q.2)) (lv := .slice a6 q.2.length c6) (.inr ⟨a6, c6, l6, k6, rfl, .head _, hwr q hqm⟩)
 refine ⟨X.lv.length - (i + 1), by omega, i + 1, _, _, _, lo6, hi6, by omega, rfl, by rw [List.length_append, hlk]; rfl, ?_, ?_, hB2, S.sub _ rfl, M⟩
 ·rw [List.map_append, hnz, List.take_add_one, hq, List.map_append]; rfl
 grind [List.mem_singleton]
section
variable {l : List Lr}
def plF : List Lr → Nat → Nm → Int
 | [], _, _ => 0
 | q :: l, s, n => if q.1.name = n then ((s + 1 : Nat) : Int) else plF l (s + 1) n
abbrev plN (l : List Lr) (n : Nm) : Int := plF l 0 n
theorem DY : ∀ (l : List Lr) (s : Nat) (x : Lr) (n : Nm), (∀ q ∈ l, q.1.name ≠ x.1.name) → plF (l ++ [x]) s n = if n = x.1.name then ((s + l.length + 1 : Nat) : Int) else plF l s n
 | [], s, x, n, _ => by
   rw [List.nil_append, plF, plF]
   by_cases e : x.1.name = n
   ·grind
   ·rw [if_neg e, if_neg fun h => e h.symm]; rfl
 | y :: l, s, x, n, h => by
   have ih := DY l (s + 1) x n fun q hq => h q (List.mem_cons_of_mem _ hq)
   grind [plF]
theorem jA : ∀ (l : List Lr) (s : Nat) (n : Nm), (plF l s n = 0 ∧ ∀ q ∈ l, q.1.name ≠ n) ∨ ∃ (i : Nat) (q : Lr), plF l s n = ((s + i + 1 : Nat) : Int) ∧ l[i]? = some q ∧ q.1.name = n
 | [], s, n => .inl ⟨rfl, fun q h => (by cases h)⟩
 | x :: l, s, n => by
   unfold plF
   by_cases e : x.1.name = n
   ·rw [if_pos e]; exact .inr ⟨0, x, rfl, rfl, e⟩
   ·rw [if_neg e]
    rcases jA l (s + 1) n with ⟨h1, h2⟩ | ⟨i, q, h1, h2, h3⟩
    ·grind
    ·exact .inr ⟨i + 1, q, by omega, by grind, h3⟩
def PlI (ml : Mes Nm) (l : List Lr) : Prop := ∀ n, (VJ ml n).getD (.int .i64 0) = .int .i64 (plN l n)
theorem JfH (l : List Lr) (x : Lr) (n : Nm) (h : ∀ q ∈ l, q.1.name ≠ x.1.name) : plN (l ++ [x]) n = if n = x.1.name then ((l.length + 1 : Nat) : Int) else plN l n := by
 grind [DY]
theorem PlI.put {ml : Mes Nm} {x : Lr} {c : Nat} (h : PlI ml l) (hx : ∀ q ∈ l, q.1.name ≠ x.1.name) : PlI (Yg encNm ml c x.1.name (.int .i64 ((l.length : Int) + 1))).1 (l ++ [x]) := by
 intro n
 rw [zK, JfH _ _ _ hx]
 split
 ·simp
 ·exact h n
def DbI (md : Mes Nm) (ps : Pl) : Prop := ∀ n, (VJ md n).getD (.int .i64 0) = .int .i64 (if Vg ps n = true then 1 else 0)
structure OneP (ps : Pl) (l : List Lr) (i : Nat) (q : Lr) : Prop where
 named : q.1.name.named = true
 n : 1 ≤ q.1.n
 wr : Jv q.2 = true
 doubt : Vg ps q.1.name = false
 rises : 0 < i → ∀ p, l[i - 1]? = some p → p.1.name.less q.1.name = true
 ex : q.1.told = false → q.1.exec.kind = 2 ∧ q.1.exec.name = q.1.name ∧ q.1.exec.n = q.1.n ∧ q.1.exec.may [] = true
def LiveOk (ps : Pl) (l : List Lr) : Prop := l.length ≤ 64 ∧ ∀ (i : Nat) (q : Lr), l[i]? = some q → OneP ps l i q
theorem SortL.snoc {q : Lr} (h : SortL l) (hp : ∀ p, l[l.length - 1]? = some p → p.1.name.less q.1.name = true) : SortL (l ++ [q]) := by
 unfold SortL at h ⊢
 rw [List.map_append, List.pairwise_append]
 refine ⟨h, by simp, fun a ha b hb => ?_⟩
 simp only [List.map_cons, List.map_nil, List.mem_singleton] at hb
 subst hb
 obtain ⟨x, hx, rfl⟩ := List.mem_map.1 ha
 obtain ⟨j, hj⟩ := List.getElem?_of_mem hx
 have hjl := (List.getElem?_eq_some_iff.1 hj).1
 obtain ⟨p, hpp⟩ : ∃ p, l[l.length - 1]? = some p := ⟨_, List.getElem?_eq_getElem o_⟩
 have h1 := hp p hpp
 rcases Nat.lt_or_ge j (l.length - 1) with h2 | h2
 ·exact Nm.less_trans (SortL.less (l := l) h h2 hj hpp) h1
 grind
theorem Eb (q : Lv) (w : World) (h : ZSl q.ea q.ec) : CT 35 #[.agg (q.exec.cells (.slice q.ea 0 q.ec))] w fun e w' => e = .returned (.bool (q.exec.may [])) ∧ Below w.heap.size w w' :=
 D9 q.exec q.ea 0 q.ec [] w h.ws
set_option maxHeartbeats 1000000 in
theorem Ed {wc w : World} {H : List Ent} {bD bL cd : Nat} {md : Mes Nm} {la : Option Addr} {lc : Nat} {cs : List Value} {ps : Pl} (M : Mem wc w (J0 bL ([] : Mes Nm) 0 :: J0 bD md cd :: H)) (hG : Good encNm md cd) (hD : DbI md ps) (hv : RowC lvS cs 0 wc.heap.size wc (.slice la l.length lc) l) (hzs : ∀ q ∈ l, ZSl q.1.ea q.1.ec) (hl : l.length ≤ 1000) :
 CT 67 #[.slice la l.length lc, .map (some bD), .map (some bL)] w fun e w' => ∃ b, e = .returned (.bool b) ∧ ∃ (ml : Mes Nm) (c : Nat), Mem wc w' (J0 bL ml c :: J0 bD md cd :: H) ∧ (b = true ↔ LiveOk ps l) ∧ (b = true → Good encNm ml c ∧ PlI ml l ∧ SortL l) := by
 refine qI Tryz.func67 95 ?_
 refine gp [[2,1],[5,1]] ?_; intro a S
 refine qY S (Ys (E := 59) S rfl ((M.rows hv).1) k_) ?_
 refine gq [[0,1],[2],[940,11]] ?_ ?_
 ·intro a h11 S
  refine gp [[3,1],[4],[930]] ?_
  exact ⟨false, rfl, [], 0, M, ⟨fun h => (by cases h), fun h => by have := h.1; omega⟩, fun h => (by cases h)⟩
 intro a h11 S
 refine gp [[6,1]] ?_; intro a S
 refine qY S (Ys (E := 59) S rfl ((M.rows hv).1) k_) ?_
 refine gp [[0,1],[3]] ?_; intro a S
 refine Jc (fun m a w' => ∃ (i : Nat) (ml : Mes Nm) (c : Nat), i ≤ l.length ∧ m = l.length - i ∧ Good encNm ml c ∧ PlI ml (l.take i) ∧ SortL (l.take i) ∧ (∀ (j : Nat) (q : Lr), j < i → l[j]? = some q → OneP ps l j q) ∧ Jk 95 a [(0, .slice la l.length lc), (1, .map (some bD)), (2, .map (some bL)), (12, .slice la l.length lc), (13, .int .i64 (l.length : Int)), (14, .int .i64 (i : Int))] ∧ Mem wc w' (J0 bL ml c :: J0 bD md cd :: H)) (l.length) ?_ ?_
 ·skip
  exact ⟨0, [], 0, Nat.zero_le _, rfl, ZS 0, fun n => rfl, List.Pairwise.nil, fun j q h => absurd h o_, S.sub _ rfl, M⟩
 intro m a wl
 rintro ⟨i, ml, c, hi, rfl, hGL, hPI, hsrt, hone, S, M⟩
 refine gq [[2,1],[3],[943,15]] ?_ ?_
 ·intro a h15 S
  refine gp [[8,1],[3],[930]] ?_
  (obtain rfl : i = l.length := by omega
   rw [List.take_length] at hPI hsrt
   exact ⟨true, rfl, ml, c, M, ⟨fun _ => ⟨by omega, fun j q hq => hone j q (List.getElem?_eq_some_iff.1 hq).1 hq⟩, fun _ => rfl⟩, fun _ => ⟨hGL, hPI, hsrt⟩⟩)
 intro a h15 S
 refine gp [[6]] ?_; intro a S
 have hi' : i < l.length := by omega
 obtain ⟨q, hq⟩ : ∃ q, l[i]? = some q := ⟨_, List.getElem?_eq_getElem hi'⟩
 have hqm := List.mem_of_getElem? hq
 obtain ⟨xa, xc, hrow, hws⟩ := hv.sl hq
 replace hrow : (cs.drop (i * 54)).take 54 = q.1.cellsL (.slice xa q.2.length xc) := hrow
 obtain ⟨p, lp, hp⟩ : ∃ (p : Lr) (lp : Value), (0 : Int) < (i : Int) → l[i - 1]? = some p ∧ (cs.drop ((i - 1) * 54)).take 54 = p.1.cellsL lp := by
  rcases Nat.eq_zero_or_pos i with rfl | h0
  ·exact ⟨q, Jz, fun h => absurd h o_⟩
  ·obtain ⟨p, hp⟩ : ∃ p, l[i - 1]? = some p := ⟨_, List.getElem?_eq_getElem o_⟩
   obtain ⟨pa, pc, h1, -⟩ := hv.sl hp
   grind
 refine gp [[1,1]] ?_; intro a S
 refine qY S (qX 59 54 S ((M.rows hv).1)) ?_; intro a S
 replace S := S.n_
 refine qY S (Ja S k_ rfl rfl (((M.rows hv).1.at_.row (i := i) hrow rfl).part (i := 0) (k := 54) rfl)) ?_; intro a S
 refine qN S M cz6 ?_; intro a w1 bV S M hB
 refine go [[0,1],[900,0],[6,1],[902,0,3]] ?_; intro a w2 S M
 refine qK S rfl (Zf q.1.name _) M ?_; intro a w3 S hK M
 refine qG [1, 1] S ?_; intro a S
 refine Js (t := 24) S rfl ?_ ?_
 ·intro h24 S
  refine gp [[0,0,0,0,1,1,0,0,0,0,1,1,0,0,0,0]] ?_; intro a S
  refine jY S rfl rfl rfl ?_
  refine gp [[0,1,1],[5,1],[10],[930]] ?_
  (refine ⟨false, rfl, ml, c, M.drop 0, ⟨fun h => (by cases h), fun h => ?_⟩, fun h => (by cases h)⟩
   obtain ⟨o1, o2, o3, o4, -, -⟩ := h.2 i q hq
   first
    | omega
    | (simp_all; done))
 intro h24 S
 refine gq [[0,4,1,1,1,1],[940,29]] ?_ ?_
 ·intro a h29 S
  refine gp [[0,0,0,0,0,1,1,0,0,0,0]] ?_; intro a S
  refine jY S rfl rfl rfl ?_
  refine gp [[0,1,1],[5,1],[10],[930]] ?_
  (refine ⟨false, rfl, ml, c, M.drop 0, ⟨fun h => (by cases h), fun h => ?_⟩, fun h => (by cases h)⟩
   obtain ⟨o1, o2, o3, o4, -, -⟩ := h.2 i q hq
   first
    | omega
    | (simp_all; done))
 intro a h29 S
 refine gp [[0,54,1]] ?_; intro a S
 refine qK S rfl (vD _ q.2 _ (M.argW hws)) M ?_; intro a w4 S hK M
 refine qG [1, 1, 1] S ?_; intro a S
 refine Js (t := 35) S rfl ?_ ?_
 ·intro h35 S
  refine gp [[0,0,0,0,0]] ?_; intro a S
  refine jY S rfl rfl rfl ?_
  refine gp [[0,1,1],[5,1],[10],[930]] ?_
  (refine ⟨false, rfl, ml, c, M.drop 0, ⟨fun h => (by cases h), fun h => ?_⟩, fun h => (by cases h)⟩
   obtain ⟨o1, o2, o3, o4, -, -⟩ := h.2 i q hq
   first
    | omega
    | (simp_all; done))
 intro h35 S
 refine gp [[0,1,1],[902,0,3]] ?_; intro a S
 refine qY S (V9 (pos := 2) S M (vJ) (hG) Tryz.underlying157 (vi) rfl rfl rfl) ?_; intro a S
 simp only [Bool.false_eq_true, if_false, hD q.1.name] at S
 refine qY S (J2 S rfl rfl rfl) ?_
 refine gq [[0,1,1],[2],[940,19]] ?_ ?_
 ·intro a h19 S
  refine gp [[3,1],[10],[930]] ?_
  (refine ⟨false, rfl, ml, c, M.drop 0, ⟨fun h => (by cases h), fun h => ?_⟩, fun h => (by cases h)⟩
   obtain ⟨o1, o2, o3, o4, -, -⟩ := h.2 i q hq
   first
    | omega
    | (simp_all; done))
 intro a h19 S
 refine go [[2],[910],[911,0,1]] ?_; intro a w5 S M
 refine Jj 1 S rfl (fun w => J2 S rfl rfl rfl) ?_
 refine gq [[911,2,1],[943,45]] ?_ ?_
 ·intro a h45 S
  refine gp [[911,3,0,0,0]] ?_; intro a S
  try (rw [show (i : Int) - 1 = ((i - 1 : Nat) : Int) by omega] at S)
  refine gp [[911,6,0,0,0,0,0,0,0]] ?_; intro a S
  refine Jj 13 S rfl (fun w => Y0 S rfl rfl) ?_
  refine gq [[911,14,1],[5,5,1,1,1],[943,61]] ?_ ?_
  ·intro a h61 S
   refine gp [[0,0,0,0,0,0,0,0,0,0,0,0,0,0,0,0,0,0,0,0,0,0,0,0,0,0,0,1,1],[7,1,1],[902,0,3],[0,1],[901]] ?_; intro a S
   refine VU (pos := 1) S M (vJ) (hGL) Tryz.underlying157 rfl rfl rfl rfl rfl ?_; intro w12 M
   replace M := M.s_
   refine gp [[4],[901],[0,1],[2]] ?_; intro a S
   replace M := M.drp 0
   have htk : l.take (i + 1) = l.take i ++ [q] := by rw [List.take_add_one, hq]; rfl
   have htl : (l.take i).length = i := by rw [List.length_take]; omega
   have hO : OneP ps l i q := by
    refine ⟨?_, by omega, ?_, ?_, fun h0 p' hp' => ?_, fun ht => ?_⟩
    ·(simp_all; done)
    ·(simp_all; done)
    ·simp_all
    ·omega
    ·(rw [show q.1.told = true by assumption] at ht; cases ht)
   have hs2 : SortL (l.take i ++ [q]) := hsrt.snoc fun p' hp' => by
    rw [htl] at hp'
    rcases Nat.eq_zero_or_pos i with h0 | h0
    ·rw [h0] at hp'; simp at hp'
    ·rw [List.getElem?_take_of_lt o_] at hp'; exact hO.rises h0 p' hp'
   have hne : ∀ p' ∈ l.take i, p'.1.name ≠ q.1.name := fun p' hp' e => by
    unfold SortL at hs2
    rw [List.map_append, List.pairwise_append] at hs2
    have := hs2.2.2 _ (List.mem_map_of_mem hp') _ (List.mem_singleton.2 rfl)
    rw [e, Nm.less_irr] at this; cases this
   refine ⟨l.length - (i + 1), by omega, i + 1, _, _, by omega, rfl, hGL.put _ _, ?_, by rw [htk]; exact hs2, fun j x hj hx => ?_, S.sub _ rfl, M⟩
   ·rw [htk, show (i : Int) = ((l.take i).length : Int) by rw [htl]]; exact hPI.put hne
   ·rcases Nat.lt_or_ge j i with h | h
    ·exact hone j x h hx
    ·obtain rfl : j = i := by omega
     rw [hq] at hx; obtain rfl := Option.some.inj hx; exact hO
  intro a h61 S
  refine gq [[0,30,1,1,1,1],[940,66]] ?_ ?_
  ·intro a h66 S
   refine gp [[0,0,0,0,0,0,0,1,1,0,0,0,0,0,0,1,1,0,0,0,0,1,1,1],[5,1],[10],[930]] ?_
   refine ⟨false, rfl, ml, c, M.drop 0, ⟨fun h => (by cases h), fun h => ?_⟩, fun h => (by cases h)⟩
   obtain ⟨e1, e2, e3, e4⟩ := (h.2 i q hq).ex a_
   omega
  intro a h66 S
  refine gp [[0,30,6],[902,0,3],[0,1],[902,0,3]] ?_; intro a S
  refine qY S (jU k_ S rfl rfl (fun w => VG 9998 ⟨_, _, _⟩ ⟨_, _, _⟩ w)) ?_
  refine gq [[0,1,1],[940,74]] ?_ ?_
  ·intro a h74 S
   refine gp [[0,0,0,0,0,0,0,1,1,0,0,0,0,1,1,1],[5,1],[10],[930]] ?_
   refine ⟨false, rfl, ml, c, M.drop 0, ⟨fun h => (by cases h), fun h => ?_⟩, fun h => (by cases h)⟩
   obtain ⟨e1, e2, e3, e4⟩ := (h.2 i q hq).ex a_
   (have h9 : q.1.exec.name.eqb q.1.name = false := by assumption
    rw [e2, Nm.eqb_iff.2 rfl] at h9; cases h9)
  intro a h74 S
  refine gq [[0,30,9,1,4,1,1,1,1],[940,82]] ?_ ?_
  ·intro a h82 S
   refine gp [[0,0,0,0,0,1,1,1],[5,1],[10],[930]] ?_
   refine ⟨false, rfl, ml, c, M.drop 0, ⟨fun h => (by cases h), fun h => ?_⟩, fun h => (by cases h)⟩
   obtain ⟨e1, e2, e3, e4⟩ := (h.2 i q hq).ex a_
   omega
  intro a h82 S
  refine gp [[0,30],[902,0,24]] ?_; intro a S
  refine qK S rfl (Eb q.1 _ (hzs q hqm)) M ?_; intro a w10 S hK M
  refine gq [[0,1,1,1,1],[2],[940,57]] ?_ ?_
  ·intro a h57 S
   refine gp [[3,1],[10],[930]] ?_
   refine ⟨false, rfl, ml, c, M.drop 0, ⟨fun h => (by cases h), fun h => ?_⟩, fun h => (by cases h)⟩
   obtain ⟨e1, e2, e3, e4⟩ := (h.2 i q hq).ex a_
   (have h9 : q.1.exec.may [] = false := by assumption
    rw [e4] at h9; cases h9)
  intro a h57 S
  refine gp [[5,1,1],[902,0,3],[0,1],[901]] ?_; intro a S
  refine VU (pos := 1) S M (vJ) (hGL) Tryz.underlying157 rfl rfl rfl rfl rfl ?_; intro w11 M
  replace M := M.s_
  refine gp [[4],[901],[0,1],[2]] ?_; intro a S
  replace M := M.drp 0
  have htk : l.take (i + 1) = l.take i ++ [q] := by rw [List.take_add_one, hq]; rfl
  have htl : (l.take i).length = i := by rw [List.length_take]; omega
  have hO : OneP ps l i q := by
   refine ⟨?_, by omega, ?_, ?_, fun h0 p' hp' => ?_, fun ht => ?_⟩
   ·(simp_all; done)
   ·(simp_all; done)
   ·simp_all
   ·omega
   ·(refine ⟨by omega, ?_, by omega, by assumption⟩
     have h9 : q.1.exec.name.eqb q.1.name = true := by assumption
     exact Nm.eqb_iff.1 h9)
  have hs2 : SortL (l.take i ++ [q]) := hsrt.snoc fun p' hp' => by
   rw [htl] at hp'
   rcases Nat.eq_zero_or_pos i with h0 | h0
   ·rw [h0] at hp'; simp at hp'
   ·rw [List.getElem?_take_of_lt o_] at hp'; exact hO.rises h0 p' hp'
  have hne : ∀ p' ∈ l.take i, p'.1.name ≠ q.1.name := fun p' hp' e => by
   unfold SortL at hs2
   rw [List.map_append, List.pairwise_append] at hs2
   have := hs2.2.2 _ (List.mem_map_of_mem hp') _ (List.mem_singleton.2 rfl)
   rw [e, Nm.less_irr] at this; cases this
  refine ⟨l.length - (i + 1), by omega, i + 1, _, _, by omega, rfl, hGL.put _ _, ?_, by rw [htk]; exact hs2, fun j x hj hx => ?_, S.sub _ rfl, M⟩
  ·rw [htk, show (i : Int) = ((l.take i).length : Int) by rw [htl]]; exact hPI.put hne
  ·rcases Nat.lt_or_ge j i with h | h
   ·exact hone j x h hx
   ·obtain rfl : j = i := by omega
    rw [hq] at hx; obtain rfl := Option.some.inj hx; exact hO
 intro a h45 S
 refine gp [[911,3,1,1]] ?_; intro a S
 (refine Jj 5 S rfl (fun w => Qz S rfl rfl o_) ?_); intro a S
 try (rw [show (i : Int) - 1 = ((i - 1 : Nat) : Int) by omega] at S)
 refine kR 6 S rfl M (fun w M => qX 59 54 S ((M.rows hv).1)) ?_; intro a S
 replace S := S.n_
 refine kF 7 0 S ?_; intro a S
 refine kR 8 S rfl M (fun w M => Ja S k_ rfl rfl (((M.rows hv).1.at_.row (i := i - 1) (hp h45).2 rfl).part (i := 0) (k := 3) rfl)) ?_
 refine gp [[911,9,1],[912,10,0,3]] ?_; intro a S
 refine k1_ 11 ?_
 refine qK S rfl (Qg p.1.name q.1.name _) M ?_; intro a w6 S hK M
 refine kH_ hK ?_
 refine Jj 12 S rfl (fun w => zO S rfl) ?_; intro a S
 refine Jj 13 S rfl (fun w => Zq S rfl rfl) ?_
 refine gq [[911,14,1],[2],[940,42]] ?_ ?_
 ·intro a h42 S
  refine gp [[3,1],[10],[930]] ?_
  refine ⟨false, rfl, ml, c, M.drop 0, ⟨fun h => (by cases h), fun h => ?_⟩, fun h => (by cases h)⟩
  have o7 := (h.2 i q hq).rises o_ p (hp o_).1
  have h9 : p.1.name.less q.1.name = false := by assumption
  rw [o7] at h9; cases h9
 intro a h42 S
 refine gq [[3,5,1,1,1],[943,61]] ?_ ?_
 ·intro a h61 S
  refine gp [[0,0,0,0,0,0,0,0,0,0,0,0,0,0,0,0,0,0,0,0,0,0,0,0,0,0,0,1,1],[7,1,1],[902,0,3],[0,1],[901]] ?_; intro a S
  refine VU (pos := 1) S M (vJ) (hGL) Tryz.underlying157 rfl rfl rfl rfl rfl ?_; intro w9 M
  replace M := M.s_
  refine gp [[4],[901],[0,1],[2]] ?_; intro a S
  replace M := M.drp 0
  have htk : l.take (i + 1) = l.take i ++ [q] := by rw [List.take_add_one, hq]; rfl
  have htl : (l.take i).length = i := by rw [List.length_take]; omega
  have hO : OneP ps l i q := by
   refine ⟨?_, by omega, ?_, ?_, fun h0 p' hp' => ?_, fun ht => ?_⟩
   ·(simp_all; done)
   ·(simp_all; done)
   ·simp_all
   ·(rw [(hp o_).1] at hp'; obtain rfl := Option.some.inj hp'; first | assumption | (simp_all; done))
   ·(rw [show q.1.told = true by assumption] at ht; cases ht)
  have hs2 : SortL (l.take i ++ [q]) := hsrt.snoc fun p' hp' => by
   rw [htl] at hp'
   rcases Nat.eq_zero_or_pos i with h0 | h0
   ·rw [h0] at hp'; simp at hp'
   ·rw [List.getElem?_take_of_lt o_] at hp'; exact hO.rises h0 p' hp'
  have hne : ∀ p' ∈ l.take i, p'.1.name ≠ q.1.name := fun p' hp' e => by
   unfold SortL at hs2
   rw [List.map_append, List.pairwise_append] at hs2
   have := hs2.2.2 _ (List.mem_map_of_mem hp') _ (List.mem_singleton.2 rfl)
   rw [e, Nm.less_irr] at this; cases this
  refine ⟨l.length - (i + 1), by omega, i + 1, _, _, by omega, rfl, hGL.put _ _, ?_, by rw [htk]; exact hs2, fun j x hj hx => ?_, S.sub _ rfl, M⟩
  ·rw [htk, show (i : Int) = ((l.take i).length : Int) by rw [htl]]; exact hPI.put hne
  ·rcases Nat.lt_or_ge j i with h | h
   ·exact hone j x h hx
   ·obtain rfl : j = i := by omega
    rw [hq] at hx; obtain rfl := Option.some.inj hx; exact hO
 intro a h61 S
 refine gq [[0,30,1,1,1,1],[940,66]] ?_ ?_
 ·intro a h66 S
  refine gp [[0,0,0,0,0,0,0,1,1,0,0,0,0,0,0,1,1,0,0,0,0,1,1,1],[5,1],[10],[930]] ?_
  refine ⟨false, rfl, ml, c, M.drop 0, ⟨fun h => (by cases h), fun h => ?_⟩, fun h => (by cases h)⟩
  obtain ⟨e1, e2, e3, e4⟩ := (h.2 i q hq).ex a_
  omega
 intro a h66 S
 refine gp [[0,30,6],[902,0,3],[0,1],[902,0,3]] ?_; intro a S
 refine qY S (jU k_ S rfl rfl (fun w => VG 9998 ⟨_, _, _⟩ ⟨_, _, _⟩ w)) ?_
 refine gq [[0,1,1],[940,74]] ?_ ?_
 ·intro a h74 S
  refine gp [[0,0,0,0,0,0,0,1,1,0,0,0,0,1,1,1],[5,1],[10],[930]] ?_
  refine ⟨false, rfl, ml, c, M.drop 0, ⟨fun h => (by cases h), fun h => ?_⟩, fun h => (by cases h)⟩
  obtain ⟨e1, e2, e3, e4⟩ := (h.2 i q hq).ex a_
  (have h9 : q.1.exec.name.eqb q.1.name = false := by assumption
   rw [e2, Nm.eqb_iff.2 rfl] at h9; cases h9)
 intro a h74 S
 refine gq [[0,30,9,1,4,1,1,1,1],[940,82]] ?_ ?_
 ·intro a h82 S
  refine gp [[0,0,0,0,0,1,1,1],[5,1],[10],[930]] ?_
  refine ⟨false, rfl, ml, c, M.drop 0, ⟨fun h => (by cases h), fun h => ?_⟩, fun h => (by cases h)⟩
  obtain ⟨e1, e2, e3, e4⟩ := (h.2 i q hq).ex a_
  omega
 intro a h82 S
 refine gp [[0,30],[902,0,24]] ?_; intro a S
 refine qK S rfl (Eb q.1 _ (hzs q hqm)) M ?_; intro a w7 S hK M
 refine gq [[0,1,1,1,1],[2],[940,57]] ?_ ?_
 ·intro a h57 S
  refine gp [[3,1],[10],[930]] ?_
  refine ⟨false, rfl, ml, c, M.drop 0, ⟨fun h => (by cases h), fun h => ?_⟩, fun h => (by cases h)⟩
  obtain ⟨e1, e2, e3, e4⟩ := (h.2 i q hq).ex a_
  (have h9 : q.1.exec.may [] = false := by assumption
   rw [e4] at h9; cases h9)
 intro a h57 S
 refine gp [[5,1,1],[902,0,3],[0,1],[901]] ?_; intro a S
 refine VU (pos := 1) S M (vJ) (hGL) Tryz.underlying157 rfl rfl rfl rfl rfl ?_; intro w8 M
 replace M := M.s_
 refine gp [[4],[901],[0,1],[2]] ?_; intro a S
 replace M := M.drp 0
 have htk : l.take (i + 1) = l.take i ++ [q] := by rw [List.take_add_one, hq]; rfl
 have htl : (l.take i).length = i := by rw [List.length_take]; omega
 have hO : OneP ps l i q := by
  refine ⟨?_, by omega, ?_, ?_, fun h0 p' hp' => ?_, fun ht => ?_⟩
  ·(simp_all; done)
  ·(simp_all; done)
  ·simp_all
  ·(rw [(hp o_).1] at hp'; obtain rfl := Option.some.inj hp'; first | assumption | (simp_all; done))
  ·(refine ⟨by omega, ?_, by omega, by assumption⟩
    have h9 : q.1.exec.name.eqb q.1.name = true := by assumption
    exact Nm.eqb_iff.1 h9)
 have hs2 : SortL (l.take i ++ [q]) := hsrt.snoc fun p' hp' => by
  rw [htl] at hp'
  rcases Nat.eq_zero_or_pos i with h0 | h0
  ·rw [h0] at hp'; simp at hp'
  ·rw [List.getElem?_take_of_lt o_] at hp'; exact hO.rises h0 p' hp'
 have hne : ∀ p' ∈ l.take i, p'.1.name ≠ q.1.name := fun p' hp' e => by
  unfold SortL at hs2
  rw [List.map_append, List.pairwise_append] at hs2
  have := hs2.2.2 _ (List.mem_map_of_mem hp') _ (List.mem_singleton.2 rfl)
  rw [e, Nm.less_irr] at this; cases this
 refine ⟨l.length - (i + 1), by omega, i + 1, _, _, by omega, rfl, hGL.put _ _, ?_, by rw [htk]; exact hs2, fun j x hj hx => ?_, S.sub _ rfl, M⟩
 ·rw [htk, show (i : Int) = ((l.take i).length : Int) by rw [htl]]; exact hPI.put hne
 grind
end
section
variable {l : List Lr}
structure WaitOk (wt : List Lk) (l : List Lr) : Prop where
 w : ∀ x ∈ wt, ∃ (k : Nat) (q : Lr), l[k]? = some q ∧ q.1.name = x.name ∧ q.1.told = false ∧ YW q = x
 l : ∀ q ∈ l, q.1.told = false → ∃ x ∈ wt, x.name = q.1.name
def CntI (cn : List Int) (l : List Lr) (ws : List Lk) : Prop := cn.length = 64 ∧ ∀ (k : Nat) (z : Int), cn[k]? = some z → 0 ≤ z ∧ z ≤ (ws.length : Int) ∧ (z = 0 ↔ ∀ x ∈ ws, plN l x.name ≠ ((k + 1 : Nat) : Int))
theorem CntI.nil (l : List Lr) : CntI (List.replicate 64 0) l [] := ⟨List.length_replicate, fun k z h => by
 grind⟩
theorem CntI.put {cn : List Int} {ws : List Lk} {x : Lk} {k : Nat} {z : Int} (h : CntI cn l ws) (hz : cn[k]? = some z) (hx : plN l x.name = ((k + 1 : Nat) : Int)) : CntI (cn.set k (z + 1)) l (ws ++ [x]) := by
 refine ⟨by rw [List.length_set]; exact h.1, fun j y hy => ?_⟩
 rw [List.length_append, List.length_singleton]
 by_cases e : k = j
 ·subst e
  rw [List.getElem?_set_self (List.getElem?_eq_some_iff.1 hz).1] at hy
  obtain rfl := Option.some.inj hy
  obtain ⟨h1, h2, -⟩ := h.2 k z hz
  grind
 ·rw [List.getElem?_set_ne e] at hy
  obtain ⟨h1, h2, h3⟩ := h.2 j y hy
  grind
theorem JbU (zs : List Int) : (Vi zs).length = zs.length := by simp [Vi]
theorem vR (hs : SortL l) {j : Nat} {q : Lr} (hq : l[j]? = some q) {n : Nm} (hn : q.1.name = n) : plN l n = ((j + 1 : Nat) : Int) := by
 rcases jA l 0 n with ⟨-, h⟩ | ⟨k, p, h1, h2, h3⟩
 ·grind
 ·obtain rfl := hs.inj hq h2 (hn.trans h3.symm)
  grind
set_option maxHeartbeats 1000000 in
theorem EQ {wc w : World} {H : List Ent} {bL c : Nat} {ml : Mes Nm} {ha wa la oa : Option Addr} {hn hc wc' lc on oc : Nat} {cs : List Value} {wt : List Lk} (M : Mem wc w (J0 bL ml c :: H)) (hG : Good encNm ml c) (hP : PlI ml l) (hu : LsL 0 wc.heap.size wc (.slice wa wt.length wc') wt) (hv : RowC lvS cs 0 wc.heap.size wc (.slice la l.length lc) l) (hsrt : SortL l) (hl : l.length ≤ 64) (hw1 : wt.length ≤ 1000) :
 CT 68 #[.agg #[.slice ha hn hc, .slice wa wt.length wc', .slice la l.length lc, .slice oa on oc], .map (some bL)] w fun e w' => ∃ b, e = .returned (.bool b) ∧ Mem wc w' (J0 bL ml c :: H) ∧ (b = true ↔ WaitOk wt l) := by
 refine qI Tryz.func68 68 ?_
 refine gp [[2]] ?_; intro a S
 refine qW_ S M ?_; intro a w1 bP S M hB
 refine qG [1] S ?_; intro a S
 refine nxA (qN S M (Vi (List.replicate 64 0)).toArray ?_); intro a w2 bA S M hB
 refine gp [[5,1,2,2],[903,110],[0,1],[3]] ?_; intro a S
 refine Jc (fun m a w' => ∃ (i : Nat) (cn : List Int), i ≤ wt.length ∧ m = wt.length - i ∧ CntI cn l (wt.take i) ∧ (∀ x ∈ wt.take i, ∃ (k : Nat) (q : Lr), l[k]? = some q ∧ q.1.name = x.name ∧ q.1.told = false ∧ YW q = x) ∧ Jk 68 a [(1, .map (some bL)), (2, p_ bP), (5, p_ bA), (13, .slice wa wt.length wc'), (14, .int .i64 (wt.length : Int)), (15, .int .i64 (i : Int))] ∧ Mem wc w' (.blk bA (Vi cn).toArray 220 :: .blk bP #[.slice ha hn hc, .slice wa wt.length wc', .slice la l.length lc, .slice oa on oc] 34 :: J0 bL ml c :: H)) (wt.length) ?_ ?_
 ·skip
  exact ⟨0, List.replicate 64 0, Nat.zero_le _, rfl, CntI.nil l, fun x hx => (by cases hx), S.sub _ rfl, M⟩
 intro m a wl
 rintro ⟨i, cn, hi, rfl, hcn, hall, S, M⟩
 refine gq [[2,1],[3],[943,16]] ?_ ?_
 ·intro a h16 S
  refine gp [[8]] ?_; intro a S
  obtain rfl : i = wt.length := by omega
  rw [List.take_length] at hcn hall
  refine gp [[1,3,2],[903,59],[0,1],[3]] ?_; intro a S
  refine Jc (fun m a w' => ∃ (j : Nat), j ≤ l.length ∧ m = l.length - j ∧ (∀ q ∈ l.take j, q.1.told = false → ∃ x ∈ wt, x.name = q.1.name) ∧ Jk 68 a [(5, p_ bA), (51, .slice la l.length lc), (52, .int .i64 (l.length : Int)), (53, .int .i64 (j : Int))] ∧ Mem wc w' (.blk bA (Vi cn).toArray 220 :: .blk bP #[.slice ha hn hc, .slice wa wt.length wc', .slice la l.length lc, .slice oa on oc] 34 :: J0 bL ml c :: H)) (l.length) ?_ ?_
  ·skip
   exact ⟨0, Nat.zero_le _, rfl, fun q hq => (by cases hq), S.sub _ rfl, M⟩
  intro m a wl
  rintro ⟨j, hj, rfl, hun, S, M⟩
  refine gq [[2,1],[3],[943,54]] ?_ ?_
  ·intro a h54 S
   refine gp [[8,1],[3],[930]] ?_
   obtain rfl : j = l.length := by omega
   rw [List.take_length] at hun
   exact ⟨true, rfl, (M.drop 0).drop 0, ⟨fun _ => ⟨hall, hun⟩, fun _ => rfl⟩⟩
  intro a h54 S
  refine gp [[6]] ?_; intro a S
  have hj' : j < l.length := by omega
  obtain ⟨q, hq⟩ : ∃ q, l[j]? = some q := ⟨_, List.getElem?_eq_getElem hj'⟩
  have hqm := List.mem_of_getElem? hq
  obtain ⟨xa, xc, hrow, hws⟩ := hv.sl hq
  replace hrow : (cs.drop (j * 54)).take 54 = q.1.cellsL (.slice xa q.2.length xc) := hrow
  obtain ⟨z, hz⟩ : ∃ z, cn[j]? = some z := ⟨_, List.getElem?_eq_getElem (by have := hcn.1; omega)⟩
  have hzb := hcn.2 j z hz
  have hpj : plN l q.1.name = ((j + 1 : Nat) : Int) := vR hsrt hq rfl
  refine gp [[1,1]] ?_; intro a S
  refine qY S (qX 59 54 S ((M.rows hv).1)) ?_; intro a S
  replace S := S.n_
  refine qY S (Ja S k_ rfl rfl (((M.rows hv).1.at_.row (i := j) hrow rfl).part (i := 0) (k := 54) rfl)) ?_; intro a S
  refine qN S M cz6 ?_; intro a w8 bV S M hB
  refine gi [[0,1],[900,0],[4,5,1,1,1],[943,61]] ?_ ?_
  ·intro a w9 h61 S M
   refine gp [[0,0,0,0,0,1],[7],[901],[0,1],[2]] ?_; intro a S
   replace M := M.drp 0
   refine ⟨l.length - (j + 1), by omega, j + 1, by omega, rfl, fun p hp ht => ?_, S.sub _ rfl, M⟩
   rw [List.take_add_one, hq] at hp
   rcases List.mem_append.1 hp with hp | hp
   ·exact hun p hp ht
   ·obtain rfl : p = q := by simpa using hp
    (rw [show p.1.told = true by assumption] at ht; cases ht)
  intro a w9 h61 S M
  refine gp [[0,1],[906,64,1]] ?_; intro a S
  refine qY S (Jf S k_ rfl (M.cell 1 rfl (vu hz))) ?_
  refine gq [[0,1,1],[2],[940,66]] ?_ ?_
  ·intro a h66 S
   refine gp [[3,1],[8],[930]] ?_
   replace M := ((M.drp 0).drp 0).drp 0
   refine ⟨false, rfl, M, ⟨fun h => (by cases h), fun h => ?_⟩⟩
   obtain ⟨x, hx, hxn⟩ := h.l q hqm a_
   exact (hzb.2.2.1 o_ x hx (by rw [hxn]; exact hpj)).elim
  intro a h66 S
  refine gp [[5],[901],[0,1],[2]] ?_; intro a S
  replace M := M.drp 0
  refine ⟨l.length - (j + 1), by omega, j + 1, by omega, rfl, fun p hp ht => ?_, S.sub _ rfl, M⟩
  rw [List.take_add_one, hq] at hp
  rcases List.mem_append.1 hp with hp | hp
  ·exact hun p hp ht
  ·obtain rfl : p = q := by simpa using hp
   (have h9 : ¬ ∀ x ∈ wt, plN l x.name ≠ ((j + 1 : Nat) : Int) := fun h => by have := hzb.2.2.2 h; omega
    have h10 : ∃ x ∈ wt, plN l x.name = ((j + 1 : Nat) : Int) := by
     refine Classical.byContradiction fun h => h9 fun x hx e => h ⟨x, hx, e⟩
    obtain ⟨x, hx, e⟩ := h10
    refine ⟨x, hx, ?_⟩
    rcases jA l 0 x.name with ⟨h1, -⟩ | ⟨k, y, h1, h2, h3⟩
    ·rw [show plN l x.name = 0 from h1] at e; omega
    ·rw [show plN l x.name = ((0 + k + 1 : Nat) : Int) from h1] at e
     obtain rfl : k = j := by omega
     rw [hq] at h2; obtain rfl := Option.some.inj h2; exact h3.symm)
 intro a h16 S
 refine gp [[6]] ?_; intro a S
 obtain ⟨x, hx⟩ : ∃ x, wt[i]? = some x := ⟨_, List.getElem?_eq_getElem o_⟩
 have hxm := List.mem_of_getElem? hx
 have htk : wt.take (i + 1) = wt.take i ++ [x] := by rw [List.take_add_one, hx]; rfl
 refine wp_region_lit (qY S (qX 110 5 S ((M.argW hu))) ?_); intro a S
 replace S := S.n_
 refine qY S (Ja S k_ rfl rfl ((M.argW hu).at_.row (i := i) (J6 hx) rfl)) ?_; intro a S
 refine qN S M yg ?_; intro a w3 bX S M hB
 refine go [[900,0],[4,1,1],[902,0,3]] ?_; intro a w4 S M
 refine qY S (V9 (pos := 3) S M (vJ) (hG) Tryz.underlying157 (vi) rfl rfl rfl) ?_; intro a S
 simp only [Bool.false_eq_true, if_false, hP x.name] at S
 have hsp := jA l 0 x.name
 have hpb : 0 ≤ plN l x.name ∧ plN l x.name ≤ 64 := by
  rcases hsp with ⟨h, -⟩ | ⟨k, q, h, hk, -⟩
  ·rw [show plN l x.name = 0 from h]; omega
  ·have := (List.getElem?_eq_some_iff.1 hk).1
   rw [show plN l x.name = ((0 + k + 1 : Nat) : Int) from h]; omega
 refine gp [[901],[0,1],[4]] ?_; intro a S
 obtain ⟨k, q, lq, hkp, hk⟩ : ∃ (k : Nat) (q : Lr) (lq : Value), (0 ≤ plN l x.name - 1 → plN l x.name - 1 = (k : Int) ∧ k < l.length) ∧ (0 ≤ plN l x.name - 1 → (l[k]? = some q ∧ q.1.name = x.name) ∧ (cs.drop (k * 54)).take 54 = q.1.cellsL lq) := by
  rcases hsp with ⟨h, -⟩ | ⟨k, q, h, hk, hkn⟩
  ·exact ⟨0, (zLv, []), Jz, fun h0 => by rw [show plN l x.name = 0 from h] at h0; omega, fun h0 => by rw [show plN l x.name = 0 from h] at h0; omega⟩
  ·obtain ⟨pa, pc, h1, -⟩ := hv.sl hk
   exact ⟨k, q, _, fun _ => ⟨by rw [show plN l x.name = ((0 + k + 1 : Nat) : Int) from h]; omega, (List.getElem?_eq_some_iff.1 hk).1⟩, fun _ => ⟨⟨hk, hkn⟩, h1⟩⟩
 refine go [[910],[911,0,1]] ?_; intro a w5 S M
 refine Jj 1 S rfl (fun w => J2 S rfl rfl rfl) ?_
 refine gq [[911,2,1],[940,26]] ?_ ?_
 ·intro a h26 S
  refine gp [[911,3,0,0,0]] ?_; intro a S
  try (rw [show plN l x.name - 1 = (k : Int) by omega] at S)
  refine gp [[911,6,0,0,0]] ?_; intro a S
  refine Jj 9 S rfl (fun w => Zq S rfl rfl) ?_
  refine gp [[911,10,1,0,0,0,0,0,0,0,0]] ?_; intro a S
  refine Jj 19 S rfl (fun w => Zq S rfl rfl) ?_
  refine gp [[5,1],[9],[930]] ?_
  replace M := ((M.drp 0).drp 0).drp 0
  refine ⟨false, rfl, M, ⟨fun h => (by cases h), fun h => ?_⟩⟩
  obtain ⟨k', q', hq', hn', ht', hw'⟩ := h.w x hxm
  rw [vR hsrt hq' hn'] at hkp hk
  have h8 := hkp o_
  obtain rfl : k' = k := by omega
  have h9 := (hk o_).1.1
  rw [hq'] at h9; obtain rfl := Option.some.inj h9
  have h10 := vR hsrt hq' hn'
  omega
 intro a h26 S
 refine gp [[911,3,3,3,1]] ?_; intro a S
 try (rw [show plN l x.name - 1 = (k : Int) by omega] at S)
 refine kR 6 S rfl M (fun w M => qX 59 54 S ((M.rows hv).1)) ?_; intro a S
 replace S := S.n_
 refine kF 7 4 S ?_; intro a S
 refine kR 8 S rfl M (fun w M => Jf S k_ rfl ((M.rows hv).1.at_.row (i := k) (hk o_).2 rfl 4 (by show 4 < 54; omega))) ?_; intro a S
 refine Jj 9 S rfl (fun w => Y0 S rfl rfl) ?_
 refine gq [[911,10,1],[940,34]] ?_ ?_
 ·intro a h34 S
  refine gp [[911,11,0,0,0,0,0,0,0,0]] ?_; intro a S
  refine Jj 19 S rfl (fun w => Zq S rfl rfl) ?_
  refine gp [[5,1],[9],[930]] ?_
  replace M := ((M.drp 0).drp 0).drp 0
  refine ⟨false, rfl, M, ⟨fun h => (by cases h), fun h => ?_⟩⟩
  obtain ⟨k', q', hq', hn', ht', hw'⟩ := h.w x hxm
  rw [vR hsrt hq' hn'] at hkp hk
  have h8 := hkp o_
  obtain rfl : k' = k := by omega
  have h9 := (hk o_).1.1
  rw [hq'] at h9; obtain rfl := Option.some.inj h9
  have h10 := vR hsrt hq' hn'
  (rw [ht'] at h34; cases h34; done)
 intro a h34 S
 refine gp [[911,11,3,3,1]] ?_; intro a S
 refine kR 14 S rfl M (fun w M => qX 59 54 S ((M.rows hv).1)) ?_; intro a S
 replace S := S.n_
 refine kR 15 S rfl M (fun w M => Ja S k_ rfl rfl (((M.rows hv).1.at_.row (i := k) (hk o_).2 rfl).part (i := 0) (k := 54) rfl)) ?_; intro a S
 refine kR 17 S rfl M (fun w M => Ja (cs := [_, _, _, _, _]) S k_ rfl rfl (M.cellsAt (k := 5) 0 rfl rfl)) ?_; intro a S
 refine k1_ 16 ?_
 refine qK S rfl (zQ q.1 lq _) M ?_; intro a w6 S hK M
 refine kH_ hK ?_
 refine Jj 18 S rfl (fun w => jU k_ S rfl rfl (Jia 9997 (YW q) x)) ?_; intro a S
 refine Jj 19 S rfl (fun w => Y0 S rfl rfl) ?_
 refine gq [[2],[940,43]] ?_ ?_
 ·intro a h43 S
  refine gp [[3,1],[9],[930]] ?_
  replace M := ((M.drp 0).drp 0).drp 0
  refine ⟨false, rfl, M, ⟨fun h => (by cases h), fun h => ?_⟩⟩
  obtain ⟨k', q', hq', hn', ht', hw'⟩ := h.w x hxm
  rw [vR hsrt hq' hn'] at hkp hk
  have h8 := hkp o_
  obtain rfl : k' = k := by omega
  have h9 := (hk o_).1.1
  rw [hq'] at h9; obtain rfl := Option.some.inj h9
  have h10 := vR hsrt hq' hn'
  (rw [hw'] at h43; simp at h43; done)
 intro a h43 S
 refine gp [[3]] ?_; intro a S
 obtain ⟨z, hz⟩ : ∃ z, cn[k]? = some z := ⟨_, List.getElem?_eq_getElem (by have := hcn.1; have := hkp o_; omega)⟩
 have hzb := hcn.2 k z hz
 rw [List.length_take] at hzb
 have hkk := (hk o_).1
 have hkl := (hkp o_).2
 refine gp [[1,1],[906,64,1]] ?_; intro a S
 refine qY S (Jf S k_ rfl (M.cell 1 rfl (vu hz))) ?_
 refine gp [[901],[906,64,1]] ?_; intro a S
 refine Ju (sz := 1) (us := [_]) S M 1 rfl k_ rfl rfl rfl rfl rfl rfl (by rw [JbU, hcn.1]; show _ + 1 ≤ 64; omega) ?_; intro w7 M
 replace M := M.s_
 refine gp [[4],[901],[0,1],[2]] ?_; intro a S
 replace M := M.drp 0
 rw [JbR (by rw [hcn.1]; omega)] at M
 have hp1 : plN l x.name = ((k + 1 : Nat) : Int) := vR hsrt hkk.1 hkk.2
 refine ⟨wt.length - (i + 1), by omega, i + 1, cn.set k (z + 1), by omega, rfl, by rw [htk]; exact hcn.put hz hp1, fun y hy => ?_, S.sub _ rfl, M⟩
 rw [htk] at hy
 rcases List.mem_append.1 hy with hy | hy
 ·exact hall y hy
 grind
end
structure PRd (X : Px) (ha wa la oa : Option Addr) (hc wc lc oc : Nat) (lcs ocs : List Value) (W : World) : Prop where
 h : LsL 0 W.heap.size W (.slice ha X.h.length hc) X.h
 w : LsL 0 W.heap.size W (.slice wa X.wt.length wc) X.wt
 l : RowC lvS lcs 0 W.heap.size W (.slice la X.lv.length lc) X.lv
 o : RowC doS ocs 0 W.heap.size W (.slice oa X.ov.length oc) X.ov
abbrev y0 (X : Px) (ha wa la oa : Option Addr) (hc wc lc oc : Nat) : Value := .agg #[.slice ha X.h.length hc, .slice wa X.wt.length wc, .slice la X.lv.length lc, .slice oa X.ov.length oc]
structure ChkP (X : Px) (ps : Pl) : Prop where
 tab : OkT X.h X.wt
 live : LiveOk ps X.lv
 over : ∀ o ∈ X.ov, ∀ q ∈ X.lv, q.1.name ≠ o.1
 wait : WaitOk X.wt X.lv
 held : ∀ x ∈ X.h, (∃ q ∈ X.lv, q.1.name = x.name) ∨ Vg ps x.name = true
 dw : ∀ p ∈ ps, ∀ x ∈ p.2, J1 X.h (p.1.name, x.block) = 2
theorem Jap (ps : Pl) (p : Pr × List Wr) (n : Nm) : Vg (ps ++ [p]) n = (Vg ps n || p.1.name.eqb n) := by
 grind [Vg]
theorem DbI.put {md : Mes Nm} {ps : Pl} {p : Pr × List Wr} {c : Nat} (h : DbI md ps) : DbI (Yg encNm md c p.1.name (.int .i64 1)).1 (ps ++ [p]) := by
 intro n
 rw [zK, Jap]
 by_cases e : n = p.1.name
 ·grind [Nm.eqb_iff]
 ·rw [if_neg e, h n, show p.1.name.eqb n = false by grind [Nm.eqb_iff], Bool.or_false]
theorem K9 {l : List Lr} (n : Nm) : plN l n = 0 ↔ ∀ q ∈ l, q.1.name ≠ n := by
 grind [jA]
set_option maxHeartbeats 4000000 in
theorem Jav {X : Px} {ha wa la oa : Option Addr} {hc wc lc oc : Nat} {lcs ocs : List Value} {b bd : Nat} {s : Sh} {da : Option Addr} {dc : Nat} {cs : List Value} {es : List Ent} (w : World) (hP : PRd X ha wa la oa hc wc lc oc lcs ocs w) (hf : X.few) (hzs : ∀ q ∈ X.lv, ZSl q.1.ea q.1.ec)
 (hB : Blk w b (shC bd s (.slice da s.ps.length dc)).toArray 101) (hd : PrsC cs 0 w.heap.size w (.slice da s.ps.length dc) s.ps) (hBk : PrBk cs s.ps es) (hl : s.h.length = 32) (hps : s.ps.length ≤ 24) :
 CT 34 #[y0 X ha wa la oa hc wc lc oc, pB b] w fun e w' => ∃ er, e = .returned (.int .i64 er) ∧ Below w.heap.size w w' ∧ (er = 0 ↔ ChkP X s.ps) := by
 have M := Mem.start w
 obtain ⟨f1, f2, f3, f4, f5, f6⟩ := hf
 have hBb := hB
 clear hB
 refine qI Tryz.func34 106 ?_; intro a S
 refine nxD (qW_ S M ?_); intro a w1 bP S M hB
 refine gp [[0,1],[5,1]] ?_; intro a S
 refine qY S (J9 k_ S rfl) ?_
 refine gp [[7]] ?_; intro a S
 refine Zh (κ := Nm) S M rfl rfl ?_; intro a w2 bD S M hB
 refine gp [[0,1],[5,1]] ?_; intro a S
 refine qD S rfl (ZT _ ((M.below.block b hBb.lt).trans hBb) (M.prsW hd) hBk hl hps) ?_
 rintro _ w3 ⟨ra, rc, lo2, hi2, cs2, es2, rfl, hB2, M2⟩; refine rv_ ?_; intro a S
 replace M := (M.join M2).perm List.perm_append_comm; clear M2
 replace M := M.c_
 refine gp [[903,57],[0,1],[3]] ?_; intro a S
 refine Jc (fun m a w' => ∃ (i : Nat) (md : Mes Nm) (cd : Nat), i ≤ s.ps.length ∧ m = s.ps.length - i ∧ Good encNm md cd ∧ DbI md (s.ps.take i) ∧ Jk 106 a [(1, pB b), (2, p_ bP), (5, .map (some bD)), (21, .slice ra s.ps.length rc), (22, .int .i64 (s.ps.length : Int)), (23, .int .i64 (i : Int))] ∧ Mem w w' (J0 bD md cd :: .blk bP #[.slice ha X.h.length hc, .slice wa X.wt.length wc, .slice la X.lv.length lc, .slice oa X.ov.length oc] 34 :: Jd lo2 hi2 57 6 (.slice ra s.ps.length rc) s.ps.length cs2 :: es2)) (s.ps.length) ?_ ?_
 ·skip
  exact ⟨0, [], 0, Nat.zero_le _, rfl, ZS 0, fun n => rfl, S.sub _ rfl, M⟩
 intro m a wl
 rintro ⟨i, md, cd, hi, rfl, hG, hDb, S, M⟩
 refine gq [[2,1],[3],[940,24]] ?_ ?_
 ·intro a h24 S
  refine gp [[6]] ?_; intro a S
  obtain ⟨q, hq⟩ : ∃ q, s.ps[i]? = some q := ⟨_, List.getElem?_eq_getElem o_⟩
  obtain ⟨ad, cp, lo4, hi4, hrow, hmem, hwl⟩ := hB2.2.2 i q hq
  have htk : s.ps.take (i + 1) = s.ps.take i ++ [q] := by grind [List.take_add_one]
  refine gp [[1],[905,57,6,2]] ?_; intro a S
  refine qY S (Ja S k_ rfl rfl ((M.readAll 2 rfl (by grind [maxLen])).at_.row (i := i) hrow rfl)) ?_; intro a S
  refine qN S M zz ?_; intro a w4 bV S M hB
  refine go [[900,0],[3,1,1],[902,0,3]] ?_; intro a w5 S M
  refine VU (pos := 1) S M (vJ) (hG) Tryz.underlying157 rfl rfl rfl rfl rfl ?_; intro w6 M
  replace M := M.s_
  refine gp [[4],[901],[0,1],[2]] ?_; intro a S
  replace M := M.drp 0
  exact ⟨s.ps.length - (i + 1), by omega, i + 1, _, _, by omega, rfl, hG.put _ _, by rw [htk]; exact hDb.put, S.sub _ rfl, M⟩
 intro a h24 S
 refine gp [[7]] ?_; intro a S
 obtain rfl : i = s.ps.length := by omega
 rw [List.take_length] at hDb
 refine wp_region_lit (Zh (κ := Nm) S M rfl rfl ?_); intro a w7 bL S M hB
 refine gp [[0,1],[5,1],[902,2,2]] ?_; intro a S
 refine qD S rfl (Kk ha wa hc wc X.h X.wt _ (M.argW hP.h) (M.argW hP.w)) ?_
 rintro _ w8 ⟨e1, rfl, hK, he1⟩; replace M := M.grow hK
 refine gq [[0,1,1],[940,36]] ?_ ?_
 ·intro a h36 S
  refine gp [[0,0,0,0,0,0,0,1],[5,1],[4],[930]] ?_
  exact ⟨2, rfl, M.below, ⟨fun h => (by cases h), fun h => by
   have h8 := he1.2 h.tab
   omega⟩⟩
 intro a h36 S
 refine gp [[0,3,3,1,1]] ?_; intro a S
 refine qD S rfl (Ed M hG hDb hP.l hzs f1) ?_
 rintro _ w9 ⟨b1, rfl, ml, cl, M1, hlo, hpl⟩; replace M := M1; clear M1
 refine gq [[0,1,1],[2],[940,43]] ?_ ?_
 ·intro a h43 S
  refine gp [[3,1],[4],[930]] ?_
  exact ⟨2, rfl, M.below, ⟨fun h => (by cases h), fun h => by
   have h8 := he1.2 h.tab
   (have h9 := hlo.2 h.live; subst h9; simp at *; done)⟩⟩
 intro a h43 S
 refine gp [[5]] ?_; intro a S
 have hb1 : b1 = true := by assumption
 obtain ⟨hGL, hPI, hsrt⟩ := hpl hb1
 have hlive := hlo.1 hb1
 have htab := he1.1 o_
 refine gp [[1,4,3],[903,160],[0,1],[3]] ?_; intro a S
 refine Jc (fun m a w' => ∃ (j : Nat), j ≤ X.ov.length ∧ m = X.ov.length - j ∧ (∀ o ∈ X.ov.take j, ∀ q ∈ X.lv, q.1.name ≠ o.1) ∧ Jk 106 a [(1, pB b), (2, p_ bP), (5, .map (some bD)), (8, .map (some bL)), (45, .slice oa X.ov.length oc), (46, .int .i64 (X.ov.length : Int)), (47, .int .i64 (j : Int))] ∧ Mem w w' (J0 bL ml cl :: J0 bD md cd :: .blk bP #[.slice ha X.h.length hc, .slice wa X.wt.length wc, .slice la X.lv.length lc, .slice oa X.ov.length oc] 34 :: Jd lo2 hi2 57 6 (.slice ra s.ps.length rc) s.ps.length cs2 :: es2)) (X.ov.length) ?_ ?_
 ·skip
  exact ⟨0, Nat.zero_le _, rfl, fun o ho => (by cases ho), S.sub _ rfl, M⟩
 intro m a wl
 rintro ⟨j, hj, rfl, hov, S, M⟩
 refine gq [[2,1],[3],[940,48]] ?_ ?_
 ·intro a h48 S
  refine gp [[6]] ?_; intro a S
  obtain ⟨o, ho⟩ : ∃ o, X.ov[j]? = some o := ⟨_, List.getElem?_eq_getElem o_⟩
  obtain ⟨lo8, hrow, -⟩ := hP.o.2 j o ho
  replace hrow : (ocs.drop (j * 4)).take 4 = [.int .i64 o.1.stamp, .int .i64 o.1.inc, .int .i64 o.1.try_, .int .i64 o.2] := hrow
  refine wp_region_lit (qY S (qX 160 4 S ((M.argW hP.o.1))) ?_); intro a S
  replace S := S.n_
  refine qY S (Ja S k_ rfl rfl ((M.argW hP.o.1).at_.row (i := j) hrow rfl)) ?_; intro a S
  refine qN S M #[.int .i64 0, .int .i64 0, .int .i64 0, .int .i64 0] ?_; intro a w10 bO S M hB
  refine go [[900,0],[4,1,1],[902,0,3]] ?_; intro a w11 S M
  refine qY S (V9 (pos := 1) S M (vJ) (hGL) Tryz.underlying157 (vi) rfl rfl rfl) ?_; intro a S
  simp only [Bool.false_eq_true, if_false, hPI o.1] at S
  refine qY S (J2 S rfl rfl rfl) ?_
  refine gq [[2],[940,55]] ?_ ?_
  ·intro a h55 S
   refine gp [[3,1],[8],[930]] ?_
   exact ⟨2, rfl, M.below, ⟨fun h => (by cases h), fun h => absurd ((K9 o.1).2 fun q hq => h.over o (List.mem_of_getElem? ho) q hq) a_⟩⟩
  intro a h55 S
  refine gp [[5],[901],[0,1],[2]] ?_; intro a S
  replace M := M.drp 0
  refine ⟨X.ov.length - (j + 1), by omega, j + 1, by omega, rfl, fun p hp => ?_, S.sub _ rfl, M⟩
  rw [List.take_add_one, ho] at hp
  rcases List.mem_append.1 hp with hp | hp
  ·exact hov p hp
  ·obtain rfl : p = o := by simpa using hp
   exact (K9 p.1).1 a_
 intro a h48 S
 refine gp [[8]] ?_; intro a S
 obtain rfl : j = X.ov.length := by omega
 rw [List.take_length] at hov
 refine gp [[1],[902,2,4],[0,1]] ?_; intro a S
 refine qD S rfl (EQ M hGL hPI hP.w hP.l hsrt hlive.1 f6) ?_
 rintro _ w12 ⟨b2, rfl, M1, hwt⟩; replace M := M1; clear M1
 refine gq [[0,1],[2],[940,60]] ?_ ?_
 ·intro a h60 S
  refine gp [[3,1],[4],[930]] ?_
  exact ⟨2, rfl, M.below, ⟨fun h => (by cases h), fun h => by have h9 := hwt.2 h.wait; subst h9; simp at *⟩⟩
 intro a h60 S
 refine gp [[5]] ?_; intro a S
 have hwok : WaitOk X.wt X.lv := hwt.1 a_
 refine gp [[1,1,1,3],[903,110],[0,1],[3]] ?_; intro a S
 refine Jc (fun m a w' => ∃ (j : Nat), j ≤ X.h.length ∧ m = X.h.length - j ∧ (∀ x ∈ X.h.take j, (∃ q ∈ X.lv, q.1.name = x.name) ∨ Vg s.ps x.name = true) ∧ Jk 106 a [(1, pB b), (2, p_ bP), (5, .map (some bD)), (8, .map (some bL)), (63, .slice ha X.h.length hc), (64, .int .i64 (X.h.length : Int)), (65, .int .i64 (j : Int))] ∧ Mem w w' (J0 bL ml cl :: J0 bD md cd :: .blk bP #[.slice ha X.h.length hc, .slice wa X.wt.length wc, .slice la X.lv.length lc, .slice oa X.ov.length oc] 34 :: Jd lo2 hi2 57 6 (.slice ra s.ps.length rc) s.ps.length cs2 :: es2)) (X.h.length) ?_ ?_
 ·skip
  exact ⟨0, Nat.zero_le _, rfl, fun o ho => (by cases ho), S.sub _ rfl, M⟩
 intro m a wl
 rintro ⟨j, hj, rfl, hhe, S, M⟩
 refine gq [[2,1],[3],[940,66]] ?_ ?_
 ·intro a h66 S
  refine gp [[6]] ?_; intro a S
  obtain ⟨x, hx⟩ : ∃ x, X.h[j]? = some x := ⟨_, List.getElem?_eq_getElem o_⟩
  refine wp_region_lit (qY S (qX 110 5 S ((M.argW hP.h))) ?_); intro a S
  replace S := S.n_
  refine qY S (Ja S k_ rfl rfl ((M.argW hP.h).at_.row (i := j) (J6 hx) rfl)) ?_; intro a S
  refine qN S M yg ?_; intro a w13 bO S M hB
  refine go [[900,0],[4,1,1],[902,0,3]] ?_; intro a w14 S M
  refine qY S (V9 (pos := 1) S M (vJ) (hGL) Tryz.underlying157 (vi) rfl rfl rfl) ?_; intro a S
  simp only [Bool.false_eq_true, if_false, hPI x.name] at S
  refine qY S (J2 S rfl rfl rfl) ?_
  refine gq [[0,1],[943,74]] ?_ ?_
  ·intro a h74 S
   refine gp [[0,0,0,0,0]] ?_; intro a S
   refine jY S rfl rfl rfl ?_
   refine gp [[0,1],[7],[901],[0,1],[2]] ?_; intro a S
   replace M := M.drp 0
   refine ⟨X.h.length - (j + 1), by omega, j + 1, by omega, rfl, fun p hp => ?_, S.sub _ rfl, M⟩
   rw [List.take_add_one, hx] at hp
   rcases List.mem_append.1 hp with hp | hp
   ·exact hhe p hp
   ·obtain rfl : p = x := by simpa using hp
    by_cases h0 : plN X.lv p.name = 0
    ·refine .inr ?_
     (exact absurd h0 a_)
    ·refine .inl ?_
     rcases jA X.lv 0 p.name with ⟨h1, -⟩ | ⟨i, q, -, h2, h3⟩
     ·exact absurd h1 h0
     ·exact ⟨q, List.mem_of_getElem? h2, h3⟩
  intro a h74 S
  refine gp [[0,1,1],[902,0,3]] ?_; intro a S
  refine qY S (V9 (pos := 2) S M (vJ) (hG) Tryz.underlying157 (vi) rfl rfl rfl) ?_; intro a S
  simp only [Bool.false_eq_true, if_false, hDb x.name] at S
  refine qY S (J2 S rfl rfl rfl) ?_
  refine gq [[0,1],[2],[940,80]] ?_ ?_
  ·intro a h80 S
   refine gp [[3,1],[8],[930]] ?_
   refine ⟨2, rfl, M.below, ⟨fun h => (by cases h), fun h => ?_⟩⟩
   rcases h.held x (List.mem_of_getElem? hx) with ⟨q, hq, hqn⟩ | h9
   ·exact absurd hqn ((K9 x.name).1 a_ q hq)
   ·simp_all
  intro a h80 S
  refine gp [[5],[901],[0,1],[2]] ?_; intro a S
  replace M := M.drp 0
  refine ⟨X.h.length - (j + 1), by omega, j + 1, by omega, rfl, fun p hp => ?_, S.sub _ rfl, M⟩
  rw [List.take_add_one, hx] at hp
  rcases List.mem_append.1 hp with hp | hp
  ·exact hhe p hp
  ·obtain rfl : p = x := by simpa using hp
   by_cases h0 : plN X.lv p.name = 0
   ·refine .inr ?_
    (cases h9 : Vg s.ps p.name <;> simp_all)
   ·refine .inl ?_
    rcases jA X.lv 0 p.name with ⟨h1, -⟩ | ⟨i, q, -, h2, h3⟩
    ·exact absurd h1 h0
    ·exact ⟨q, List.mem_of_getElem? h2, h3⟩
 intro a h66 S
 refine gp [[8]] ?_; intro a S
 obtain rfl : j = X.h.length := by omega
 rw [List.take_length] at hhe
 replace M := (M.drp 0).drp 0
 replace M := M.sub (.cons_cons _ (List.nil_sublist _))
 refine gp [[1,1]] ?_; intro a S
 refine qD S rfl (ZT _ ((M.below.block b hBb.lt).trans hBb) (M.prsW hd) hBk hl hps) ?_
 rintro _ w15 ⟨ra, rc, lo2, hi2, cs2, es2, rfl, hB2, M2⟩; refine rv_ ?_; intro a S
 replace M := (M.join M2).perm List.perm_append_comm; clear M2
 replace M := M.c_
 refine gp [[903,57],[0,1],[3]] ?_; intro a S
 refine Jc (fun m a w' => ∃ (i : Nat), i ≤ s.ps.length ∧ m = s.ps.length - i ∧ (∀ p ∈ s.ps.take i, ∀ x ∈ p.2, J1 X.h (p.1.name, x.block) = 2) ∧ Jk 106 a [(2, p_ bP), (83, .slice ra s.ps.length rc), (84, .int .i64 (s.ps.length : Int)), (85, .int .i64 (i : Int))] ∧ Mem w w' (.blk bP #[.slice ha X.h.length hc, .slice wa X.wt.length wc, .slice la X.lv.length lc, .slice oa X.ov.length oc] 34 :: Jd lo2 hi2 57 6 (.slice ra s.ps.length rc) s.ps.length cs2 :: es2)) (s.ps.length) ?_ ?_
 ·skip
  exact ⟨0, Nat.zero_le _, rfl, fun p hp => (by cases hp), S.sub _ rfl, M⟩
 intro m a wl
 rintro ⟨i, hi, rfl, hdw, S, M⟩
 refine gq [[2,1],[3],[943,86]] ?_ ?_
 ·intro a h86 S
  refine gp [[8,1],[3],[930]] ?_
  obtain rfl : i = s.ps.length := by omega
  rw [List.take_length] at hdw
  exact ⟨0, rfl, M.below, ⟨fun _ => ⟨htab, hlive, hov, hwok, hhe, hdw⟩, fun _ => rfl⟩⟩
 intro a h86 S
 refine gp [[6]] ?_; intro a S
 obtain ⟨q, hq⟩ : ∃ q, s.ps[i]? = some q := ⟨_, List.getElem?_eq_getElem o_⟩
 have hqm := List.mem_of_getElem? hq
 obtain ⟨ad, cp, lo4, hi4, hrow, hmem, hwl⟩ := hB2.2.2 i q hq
 refine gp [[1],[905,57,6,1]] ?_; intro a S
 refine qY S (Ja S k_ rfl rfl ((M.readAll 1 rfl m_).at_.row (i := i) hrow rfl)) ?_; intro a S
 refine qN S M zz ?_; intro a w16 bV S M hB
 refine go [[900,0],[4,4,1],[903,108],[0,1],[3]] ?_; intro a w17 S M
 refine Jc (fun m a w' => ∃ (j : Nat), j ≤ q.2.length ∧ m = q.2.length - j ∧ (∀ x ∈ q.2.take j, J1 X.h (q.1.name, x.block) = 2) ∧ Jk 106 a [(2, p_ bP), (14, p_ bV), (83, .slice ra s.ps.length rc), (84, .int .i64 (s.ps.length : Int)), (85, .int .i64 (i : Int)), (90, .slice ad q.2.length cp), (91, .int .i64 (q.2.length : Int)), (92, .int .i64 (j : Int))] ∧ Mem w w' (.blk bV (q.1.cellsL (.slice ad q.2.length cp)).toArray 57 :: .blk bP #[.slice ha X.h.length hc, .slice wa X.wt.length wc, .slice la X.lv.length lc, .slice oa X.ov.length oc] 34 :: Jd lo2 hi2 57 6 (.slice ra s.ps.length rc) s.ps.length cs2 :: es2)) (q.2.length) ?_ ?_
 ·skip
  exact ⟨0, Nat.zero_le _, rfl, fun p hp => (by cases hp), S.sub _ rfl, M⟩
 intro m a wl
 rintro ⟨j, hj, rfl, hdx, S, M⟩
 have hws := ((show WrAt (.slice ad q.2.length cp) q.2 es2 from .inr ⟨ad, cp, lo4, hi4, rfl, hmem, hwl⟩).ws M (fun e he => by simp [he])).wide (Nat.zero_le _) (Nat.le_refl _)
 refine gq [[2,1],[3],[943,93]] ?_ ?_
 ·intro a h93 S
  refine gp [[8],[901],[0,1],[2]] ?_; intro a S
  replace M := M.drp 0
  obtain rfl : j = q.2.length := by omega
  rw [List.take_length] at hdx
  refine ⟨s.ps.length - (i + 1), by omega, i + 1, by omega, rfl, fun p hp => ?_, S.sub _ rfl, M⟩
  rw [List.take_add_one, hq] at hp
  rcases List.mem_append.1 hp with hp | hp
  ·exact hdw p hp
  ·obtain rfl : p = q := by simpa using hp
   exact hdx
 intro a h93 S
 refine gp [[6]] ?_; intro a S
 obtain ⟨x, hx⟩ : ∃ x, q.2[j]? = some x := ⟨_, List.getElem?_eq_getElem o_⟩
 refine wp_region_lit (qY S (qX 108 9 S (hws)) ?_); intro a S
 replace S := S.n_
 refine qY S (Ja S k_ rfl rfl (hws.at_.row (i := j) (JQ hx) rfl)) ?_; intro a S
 refine qN S M Ww ?_; intro a w18 bY S M hB
 refine go [[900,0],[4,1],[902,2,2],[0,1],[902,1,3],[0,1,1]] ?_; intro a w19 S M
 refine qK S rfl (Ka ha wa hc X.wt.length wc X.h q.1.name x.block _ (M.argW hP.h)) M ?_; intro a w20 S hK M
 refine gq [[0,1],[2],[940,103]] ?_ ?_
 ·intro a h103 S
  refine gp [[3,1],[12],[930]] ?_
  exact ⟨2, rfl, M.below, ⟨fun h => (by cases h), fun h => absurd (h.dw q hqm x (List.mem_of_getElem? hx)) a_⟩⟩
 intro a h103 S
 refine gp [[5],[901],[0,1],[2]] ?_; intro a S
 replace M := M.drp 0
 refine ⟨q.2.length - (j + 1), by omega, j + 1, by omega, rfl, fun p hp => ?_, S.sub _ rfl, M⟩
 grind [List.take_add_one]
end Go.Proofs.YtocppoflhllelaaGreat
