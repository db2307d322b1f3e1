/-
  What PartStrict rests on, part 37.
-/
import Derived.Test.YtocppoflhllelaaGreatP36
namespace Go.Proofs.YtocppoflhllelaaGreat
open Go.RowKit Go.Sort
theorem Jdp : ShI d18 (shF su18 1) 1 :=
 ⟨rfl, fun _ => by show (0 : Int) ≤ _; decide, rfl, fun q h => (by cases h), K2, ⟨by decide, by decide⟩, by decide, by decide, by decide, Nat.zero_le _, by decide⟩
theorem Jdo : ShO (shF su18 1) := ⟨rfl, by decide, fun p h => (by cases h)⟩
section
variable {wc W : World} {A P : List Ent} {D : PxD} {X : Px} {es : List Ent} {b bd : Nat} {s : Sh} {S : DS}
theorem ShM.perm {A' : List Ent} (h : ShM wc W A b bd s S) (hp : A.Perm A') : ShM wc W A' b bd s S := by
 obtain ⟨da, dc, lo, hi, cs, es', E, hE, hQ, M⟩ := ShM.open (P := []) h
 exact ShM.close (P := []) hE hQ (M.perm (.cons _ (.cons _ ((hp.append_right E).append_left es'))))
theorem Zk (D : PxD) (X : Px) : (D.rows X (es ++ (P ++ A))).Perm (P ++ D.rows X (es ++ A)) := by
 refine List.Perm.trans (l₂ := D.rows X (P ++ (es ++ A))) ((Kx (L := P)).append_left (D.rows X [])) ?_
 show ((D.rows X [] ++ (P ++ (es ++ A)))).Perm (P ++ (D.rows X [] ++ (es ++ A)))
 grind [Kx]
theorem PxI.prd (hI : PxI D X es) (hf : X.few) (M : Mem wc W (D.rows X (es ++ A))) : PRd X D.ha D.wa D.la D.oa D.hc D.wc D.lc D.oc D.lcs D.ocs W := by
 obtain ⟨f1, f2, f3, f4, f5, f6⟩ := hf
 exact ⟨M.readAll 0 rfl (by grind [maxLen]), M.readAll 1 rfl (by grind [maxLen]),
  (hI.lv.rowC M (.tail _ (.tail _ (.head _))) (fun e he => by grind) (by grind [maxLen])).wide (Nat.zero_le _) (Nat.le_refl _),
  (hI.ov.rowC M (.tail _ (.tail _ (.tail _ (.head _)))) (fun e he => by grind) (by grind [maxLen])).wide (Nat.zero_le _) (Nat.le_refl _)⟩
theorem PxI.mail (hI : PxI D X es) (hf : X.ml.length ≤ 1000) (M : Mem wc W (D.rows X (es ++ A))) : RowC pmS D.mcs 0 W.heap.size W (.slice D.ma X.ml.length D.mc) X.ml := by
 exact (hI.ml.rowC M (.tail _ (.tail _ (.tail _ (.tail _ (.head _))))) (fun e he => by grind) (by grind [maxLen])).wide (Nat.zero_le _) (Nat.le_refl _)
end
theorem yP {wc w' : World} {A : List Ent} {b bd : Nat} {X : Px} {s : Sh} {Sd : DS} {N : Int} {m : Msg} {x : List Wr} {e : Ending} (h : JcH wc A b bd X s Sd N m x e w') (hc : ChkP X s.ps) (hm : m.may x = true) :
 ∃ (C : PxC) (lv : List Lr) (X' : Px) (s' : Sh) (S' : DS) (D : PxD) (es : List Ent), C.m = m ∧ C.self = m.to ∧ lv.map Lr.nz = X.lv.map Lr.nz ∧ yn C (X.start lv) X' s s' ∧
 e = .returned (.tuple #[y0 X' D.ha D.wa D.la D.oa D.hc D.wc D.lc D.oc, .agg #[.slice D.ma X'.ml.length D.mc, Jz, .slice D.ea X'.el.length D.ec], .int .i64 0]) ∧
 PxI D X' es ∧ ShO s' ∧ ShI S' s' (N + 2) ∧ ShM wc w' (D.rows X' (es ++ A)) b bd s' S' := by
 rcases h with ⟨er, -, -, -, h⟩ | ⟨C, lv, X', s', S', D, es, h1, h2, -, -, h5, -, -, h8, h9, h10, h11, h12, h13⟩
 ·grind
 grind
theorem Jj7 : X0.few := ⟨by decide, by decide, by decide, by decide, by decide, by decide⟩
theorem Wo : X1.few := ⟨by decide, by decide, by decide, by decide, by decide, by decide⟩
theorem JiZ : X2.few := ⟨by decide, by decide, by decide, by decide, by decide, by decide⟩
theorem JjR (W : World) : PRd X0 none none none none 0 0 0 0 [] [] W := ⟨Rd.nil _ _ _ _, Rd.nil _ _ _ _, RowC.nil, RowC.nil⟩
set_option maxHeartbeats 4000000 in
theorem zg (w : World) : CQ 4 #[] w (.bool true) := by
 have M := Mem.start w
 refine qI Tryz.func4 140 ?_
 refine gp [[2,1],[4]] ?_; intro a S
 refine qD S rfl (GR _) ?_
 rintro _ w1 ⟨bs, bd, b2, rfl, W0⟩; refine rv_ ?_; intro a S
 clear M
 refine gp [[0,1,1,1,1,1,1,1],[5,1,1,1],[941,23],[0,1]] ?_; intro a S
 refine qY S (J9 k_ S rfl) ?_
 refine gp [[0,1],[7,1]] ?_; intro a S
 refine qD S rfl (D8 (A := []) W0 rfl rfl) ?_
 rintro _ w2 ⟨rfl, W1⟩; refine rv_ ?_; intro a S
 obtain ⟨da, dc, lo, hi, cs, es', E, hE, hQ, M⟩ := ShM.open (P := []) W1
 simp only [List.nil_append] at M
 refine qG [1, 1, 1] S ?_; intro a S
 refine qN S M zx ?_; intro a w3 bP S M hB
 refine go [[900,0],[0,1],[4]] ?_; intro a w4 S M
 refine qK S rfl (yj _ _ _) M ?_; intro a w5 S hK M
 refine qN S M cz3 ?_; intro a w6 bMM S M hB
 refine go [[900,0],[4,9],[900,0],[4,10],[900,0],[4,11],[900,0],[4]] ?_; intro a w10 S M
 refine qY S (V5 (ps := [(0, .const (.int .u8 9))]) (sz := 1) (z := Ki) (cs := [_, _, _, _, _, _, _, _]) S k_ rfl rfl) ?_
 refine go [[0,12],[900,0],[4],[902,1,4],[0,1],[902,0,24]] ?_; intro a w11 S M
 refine qD S rfl ((Z7 (A := [_, _] ++ []) (o := 0) (ShM.close (P := [_, _]) hE hQ M) Jdp d_ Jdo (fun W _ => JjR W) rfl rfl (Nat.le_refl _) (Nat.le_refl _) d_ Jj7 (fun q h => (by cases h)) (fun q h => (by cases h)) m1 none 0 [] (fun W _ => Rd.nil _ _ _ _) (.inl rfl) rfl (fun h => absurd h d_)).mono fun e w' h => yP h (Jkc rfl) rfl) ?_
 rintro _ w12 ⟨C1, lv1, Y1, s1, S1, D1, es1, hC, hCs, hnz, hst, rfl, hI1, hO1, hJ1, W2⟩; refine rv_ ?_; intro a S
 obtain ⟨rfl, rfl⟩ := wk1 hC hCs rfl hnz hst
 replace W2 := ShM.perm W2 (Zk D1 X1)
 clear hE hQ
 obtain ⟨da, dc, lo, hi, cs, es', E, hE, hQ, M⟩ := ShM.open W2
 obtain ⟨G1, hG1⟩ : ∃ G1, G1 = D1.rows X1 (es1 ++ []) := ⟨_, rfl⟩
 rw [← hG1] at M W2
 replace M := M.c_
 refine gp [[0,1,1,1,1]] ?_; intro a S
 refine qN S M Qp ?_; intro a w13 bT1 S M hB
 refine go [[900,2],[900,0],[0,1],[2]] ?_; intro a w15 S M
 refine YI (fun a w' => ∃ (bT : Nat) (D2 : PxD) (es2 : List Ent) (s2 : Sh) (S2 : DS), PxI D2 X2 es2 ∧ ShO s2 ∧ ShI S2 s2 (1 + 2 + 2) ∧ s2.ps = [((⟨n5, 0, 0⟩ : Pr), x9s)] ∧ s2.h = (shF su18 1).h ∧ Jk 140 a [(1, pB bs), (4, p_ bP), (5, .int .i64 0), (7, p_ bT1), (8, .int .i64 0), (9, p_ bT), (10, .int .i64 0)] ∧ ShM w w' ([.blk bT #[.slice D2.ma X2.ml.length D2.mc, Jz, .slice D2.ea X2.el.length D2.ec] 53, .blk bT1 #[.slice D1.ma X1.ml.length D1.mc, Jz, .slice D1.ea X1.el.length D1.ec] 53, .blk bMM (m1.cells Jz) 46, .blk bP #[.slice D2.ha X2.h.length D2.hc, .slice D2.wa X2.wt.length D2.wc, .slice D2.la X2.lv.length D2.lc, .slice D2.oa X2.ov.length D2.oc] 34] ++ D2.rows X2 (es2 ++ G1) : List Ent) bs bd s2 S2) ?_ ?_
 ·skip
  refine go [[910,3,9,9,10,10]] ?_; intro a w16 S M
  refine kR 0 S rfl M (fun w M => Ja (cs := [_, _, _, _]) S k_ rfl rfl (M.cellsAt (k := 4) 2 rfl rfl)) ?_
  refine gp [[911,1,1]] ?_; intro a S
  refine j3 2 8 rfl rfl k_ ?_ ?_
  ·skip
   refine qK S rfl (yj _ _ _) M ?_; intro a w17 S hK M
   refine kH_ hK ?_
   refine j3 3 8 rfl rfl k_ ?_ ?_
   ·skip
    refine qD S rfl ((Z7 (A := _ :: _ ::  [_] ++ G1) (o := 10) (ShM.close (P := _ :: _ ::  [_]) hE hQ M) hJ1 d_ hO1 (fun W M => hI1.prd Wo (hG1 ▸ M.sub (List.sublist_append_right _ _))) hI1.lv.2.1 hI1.ov.2.1 d_ d_ d_ Wo (fun q h => (by obtain rfl := List.mem_singleton.1 h; exact .inl ⟨rfl, rfl⟩)) (fun q h => (by obtain rfl := List.mem_singleton.1 h; decide)) (QE 4 5) none 0 [] (fun W _ => Rd.nil _ _ _ _) (.inr (.inl rfl)) rfl (fun _ => ⟨rfl, rfl⟩)).mono fun e w' h => yP h (Jgv rfl) rfl) ?_
    rintro _ w18 ⟨C2, lv2, Y2, s2, S2, D2, es2, hC, hCs, hnz, hst, rfl, hI2, hO2, hJ2, W2⟩; refine rv_ ?_; intro a S
    obtain ⟨rfl, hps2, hh2⟩ := wk2 hC hCs rfl hnz hst
    replace W2 := ShM.perm W2 (Zk D2 X2)
    clear hE hQ
    obtain ⟨da, dc, lo, hi, cs, es', E, hE, hQ, M⟩ := ShM.open W2
    obtain ⟨G2, hG2⟩ : ∃ G2, G2 = D2.rows X2 (es2 ++ G1) := ⟨_, rfl⟩
    rw [← hG2] at M W2
    replace M := M.c_
    refine kn_ ?_
    refine gp [[911,4,1,1,1,1]] ?_; intro a S
    refine k1_ 8 ?_
    refine qN S M Qp ?_; intro a w19 bT2 S M hB
    refine kH_ hB ?_
    refine go [[914,9,3],[914,10,0],[911,11,1],[2]] ?_; intro a w21 S M
    exact ⟨_, D2, es2, s2, S2, hI2, hO2, hJ2, hps2, hh2, S.sub _ rfl, by grind [ShM.close]⟩
   ·skip
    refine qN S M Qp ?_; intro a w22 bT2 S M hB
    refine kH_ hB ?_
    refine k1_ 3 ?_
    refine qD S rfl ((Z7 (A := _ :: _ :: _ ::  [_] ++ G1) (o := 10) (ShM.close (P := _ :: _ :: _ ::  [_]) hE hQ M) hJ1 d_ hO1 (fun W M => hI1.prd Wo (hG1 ▸ M.sub (List.sublist_append_right _ _))) hI1.lv.2.1 hI1.ov.2.1 d_ d_ d_ Wo (fun q h => (by obtain rfl := List.mem_singleton.1 h; exact .inl ⟨rfl, rfl⟩)) (fun q h => (by obtain rfl := List.mem_singleton.1 h; decide)) (QE 4 5) none 0 [] (fun W _ => Rd.nil _ _ _ _) (.inr (.inl rfl)) rfl (fun _ => ⟨rfl, rfl⟩)).mono fun e w' h => yP h (Jgv rfl) rfl) ?_
    rintro _ w23 ⟨C2, lv2, Y2, s2, S2, D2, es2, hC, hCs, hnz, hst, rfl, hI2, hO2, hJ2, W2⟩; refine rv_ ?_; intro a S
    obtain ⟨rfl, hps2, hh2⟩ := wk2 hC hCs rfl hnz hst
    replace W2 := ShM.perm W2 (Zk D2 X2)
    clear hE hQ
    obtain ⟨da, dc, lo, hi, cs, es', E, hE, hQ, M⟩ := ShM.open W2
    obtain ⟨G2, hG2⟩ : ∃ G2, G2 = D2.rows X2 (es2 ++ G1) := ⟨_, rfl⟩
    rw [← hG2] at M W2
    replace M := M.c_
    refine kn_ ?_
    refine go [[911,4,1,1,1,1],[914,9,3],[914,10,0],[911,11,1],[2]] ?_; intro a w25 S M
    exact ⟨_, D2, es2, s2, S2, hI2, hO2, hJ2, hps2, hh2, S.sub _ rfl, by rw [← hG2]; exact ShM.close (P := [_, _, _, _]) hE hQ M⟩
  ·skip
   refine qN S M Qp ?_; intro a w26 bT2 S M hB
   refine kH_ hB ?_
   refine k1_ 2 ?_
   refine qK S rfl (yj _ _ _) M ?_; intro a w27 S hK M
   refine kH_ hK ?_
   refine k1_ 3 ?_
   refine qD S rfl ((Z7 (A := _ :: _ :: _ ::  [_] ++ G1) (o := 10) (ShM.close (P := _ :: _ :: _ ::  [_]) hE hQ M) hJ1 d_ hO1 (fun W M => hI1.prd Wo (hG1 ▸ M.sub (List.sublist_append_right _ _))) hI1.lv.2.1 hI1.ov.2.1 d_ d_ d_ Wo (fun q h => (by obtain rfl := List.mem_singleton.1 h; exact .inl ⟨rfl, rfl⟩)) (fun q h => (by obtain rfl := List.mem_singleton.1 h; decide)) (QE 4 5) none 0 [] (fun W _ => Rd.nil _ _ _ _) (.inr (.inl rfl)) rfl (fun _ => ⟨rfl, rfl⟩)).mono fun e w' h => yP h (Jgv rfl) rfl) ?_
   rintro _ w28 ⟨C2, lv2, Y2, s2, S2, D2, es2, hC, hCs, hnz, hst, rfl, hI2, hO2, hJ2, W2⟩; refine rv_ ?_; intro a S
   obtain ⟨rfl, hps2, hh2⟩ := wk2 hC hCs rfl hnz hst
   replace W2 := ShM.perm W2 (Zk D2 X2)
   clear hE hQ
   obtain ⟨da, dc, lo, hi, cs, es', E, hE, hQ, M⟩ := ShM.open W2
   obtain ⟨G2, hG2⟩ : ∃ G2, G2 = D2.rows X2 (es2 ++ G1) := ⟨_, rfl⟩
   rw [← hG2] at M W2
   replace M := M.c_
   refine kn_ ?_
   refine go [[911,4,1,1,1,1],[914,9,3],[914,10,0],[911,11,1],[2]] ?_; intro a w30 S M
   exact ⟨_, D2, es2, s2, S2, hI2, hO2, hJ2, hps2, hh2, S.sub _ rfl, by rw [← hG2]; exact ShM.close (P := [_, _, _, _]) hE hQ M⟩
 intro a wc
 rintro ⟨bT, D2, es2, s2, S2, hI2, hO2, hJ2, hps2, hh2, S, W2⟩
 obtain ⟨da, dc, lo, hi, cs, es', E, hE, hQ, M⟩ := ShM.open W2
 obtain ⟨G2, hG2⟩ : ∃ G2, G2 = D2.rows X2 (es2 ++ G1) := ⟨_, rfl⟩
 rw [← hG2] at M W2
 replace M := M.c_
 refine nxD (qK S rfl (yj _ _ _) M ?_); intro a w31 S hK M
 refine qN S M cz3 ?_; intro a w32 bN S M hB
 refine go [[900,0],[4,21],[900,0],[4],[902,4,4],[0,1],[902,0,24]] ?_; intro a w34 S M
 refine qD S rfl ((Z7 (A := _ :: _ :: _ :: _ ::  [_] ++ G2) (o := 10) (ShM.close (P := _ :: _ :: _ :: _ ::  [_]) hE hQ M) hJ2 d_ hO2 (fun W M => hI2.prd JiZ (hG2 ▸ M.sub (List.sublist_append_right _ _))) hI2.lv.2.1 hI2.ov.2.1 d_ d_ d_ JiZ (fun q h => (by cases h)) (fun q h => (by cases h)) m3 none 0 [] (fun W _ => Rd.nil _ _ _ _) (.inr (.inr (.inl rfl))) rfl (fun h => absurd h d_)).mono fun e w' h => yP h (Jkb hps2) rfl) ?_
 rintro _ w35 ⟨C3, lv3, Y3, s3, S3, D3, es3, hC, hCs, hnz, hst, rfl, hI3, hO3, hJ3, W2⟩; refine rv_ ?_; intro a S
 obtain ⟨hYh, hYm, hh3⟩ := wk3 hC hCs hps2 hnz hst
 replace W2 := ShM.perm W2 (Zk D3 Y3)
 clear hE hQ
 obtain ⟨da, dc, lo, hi, cs, es', E, hE, hQ, M⟩ := ShM.open W2
 obtain ⟨G3, hG3⟩ : ∃ G3, G3 = D3.rows Y3 (es3 ++ G2) := ⟨_, rfl⟩
 rw [← hG3] at M W2
 replace M := M.c_
 refine gp [[0,1,1,1,1]] ?_; intro a S
 refine qN S M Qp ?_; intro a w36 bT3 S M hB
 refine go [[900,5],[900,0],[0,1],[4,1]] ?_; intro a w38 S M
 refine qK S rfl (zn 3 v9 _ (M.blk 6 rfl) hJ3.hl (by rw [hh3, hh2]; rfl)) M ?_; intro a w39 S hK M
 refine qG [1, 1, 1] S ?_; intro a S
 refine qN S M Kj ?_; intro a w40 bV S M hB
 refine go [[900,0],[0,1],[3]] ?_; intro a w41 S M
 rw [hYh, hYm] at M
 have M3 : Mem w w41 G3 := M.sub (((List.sublist_append_left G3 E).trans (List.sublist_append_right es' _)).trans (List.sublist_append_right [_, _, _, _, _, _, _, _, _] _))
 have M2 : Mem w w41 G2 := M3.sub (by rw [hG3]; exact List.sublist_append_right (D3.rows Y3 es3) G2)
 have M1 : Mem w w41 G1 := M2.sub (by rw [hG2]; exact List.sublist_append_right (D2.rows X2 es2) G1)
 have R1 : RowC pmS D1.mcs 0 w41.heap.size w41 (.slice D1.ma X1.ml.length D1.mc) X1.ml := hI1.mail d_ (hG1 ▸ M1)
 have R2 : RowC pmS D2.mcs 0 w41.heap.size w41 (.slice D2.ma X2.ml.length D2.mc) X2.ml := hI2.mail d_ (hG2 ▸ M2)
 have R3 : RowC pmS D3.mcs 0 w41.heap.size w41 (.slice D3.ma Y3.ml.length D3.mc) Y3.ml := hI3.mail (by rw [hYm]; decide) (hG3 ▸ M3)
 rw [hYm] at R3
 obtain ⟨xa1, xc1, hr1, -⟩ := R1.sl (i := 0) rfl
 obtain ⟨xa2, xc2, hr2, -⟩ := R2.sl (i := 0) rfl
 obtain ⟨xa3, xc3, hr3, -⟩ := R3.sl (i := 0) rfl
 have e1 : X1.ml.length = 1 := rfl
 have e2 : X2.ml.length = 1 := rfl
 have e3 : [(({ Yx 7 n5 0 0 false with frm := 1 } : Msg), ([] : List Wr))].length = 1 := rfl
 refine wp_region_lit (qG [1, 1, 1] S ?_); intro a S
 refine qf 71 S ?_ ?_
 ·intro h71 S
  exact absurd rfl h71
 intro h71 S
 refine qG [1, 1, 1, 1] S ?_; intro a S
 refine qf 75 S ?_ ?_
 ·intro h75 S
  exact absurd rfl h75
 intro h75 S
 refine qG [1, 1, 1, 1] S ?_; intro a S
 refine qf 79 S ?_ ?_
 ·intro h79 S
  exact absurd rfl h79
 intro h79 S
 refine qG [1, 1, 1, 1] S ?_; intro a S
 refine qf 83 S ?_ ?_
 ·intro h83 S
  exact absurd rfl h83
 intro h83 S
 refine qG [1, 1, 1, 1] S ?_; intro a S
 refine qf 87 S ?_ ?_
 ·intro h87 S
  exact absurd rfl h87
 intro h87 S
 refine qY S (VM (m := 8) (sz := 1) S k_ rfl rfl o_) ?_
 refine gp [[0,1,1,1,1],[942,92],[0,1,5],[903,46],[0,1,1,1],[942,98],[0,1,5]] ?_; intro a S
 refine qY S (qX 46 24 S (R1.1)) ?_
 refine gp [[0,20]] ?_; intro a S
 refine qY S (Jf S k_ rfl (R1.1.at_.row (i := 0) hr1 rfl 19 (by show 19 < 24; omega))) ?_
 refine gp [[0,1,1,1],[942,106],[0,1,4],[903,46],[0,1,1,1],[942,112],[0,1,4]] ?_; intro a S
 refine qY S (qX 46 24 S (R2.1)) ?_
 refine gp [[0,21]] ?_; intro a S
 refine qY S (Jf S k_ rfl (R2.1.at_.row (i := 0) hr2 rfl 20 (by show 20 < 24; omega))) ?_
 refine gp [[0,1,1],[942,119],[0,1,2],[903,46],[0,1,1,1],[942,125],[0,1,2]] ?_; intro a S
 refine qY S (qX 46 24 S (R3.1)) ?_
 refine gp [[0,1]] ?_; intro a S
 refine qY S (Jf S k_ rfl (R3.1.at_.row (i := 0) hr3 rfl 0 (by show 0 < 24; omega))) ?_
 refine gp [[0,1,1,1],[942,133],[0,1,1,7],[903,110],[0,1,1,1],[3],[930]] ?_
 exact ⟨rfl, M.below⟩
section
variable {wc w w' : World} {A A' P : List Ent} {b bd : Nat} {s : Sh} {S : DS}
theorem ShM.sub (h : ShM wc w A b bd s S) (hs : A'.Sublist A) : ShM wc w A' b bd s S := by
 obtain ⟨da, dc, lo, hi, cs, es', E, hE, hQ, M⟩ := ShM.open (P := []) h
 exact ShM.close (P := []) hE hQ (M.sub (.cons_cons _ (.cons_cons _ ((List.Sublist.refl es').append (hs.append (.refl E))))))
theorem ShM.join (h : ShM wc w A b bd s S) (M2 : Mem w w' P) : ShM wc w' (P ++ A) b bd s S := by
 obtain ⟨da, dc, lo, hi, cs, es', E, hE, hQ, M⟩ := ShM.open (P := []) h
 exact ShM.close hE hQ (M.join M2)
theorem ShM.nil0 (h : ShM wc w A b bd s S) : ∃ D : PxD, D.ha = none ∧ D.wa = none ∧ D.la = none ∧ D.oa = none ∧ D.hc = 0 ∧ D.wc = 0 ∧ D.lc = 0 ∧ D.oc = 0 ∧ PxI D X0 [] ∧ ShM wc w (D.rows X0 ([] ++ A)) b bd s S := by
 obtain ⟨da, dc, lo, hi, cs, es', E, hE, hQ, M⟩ := ShM.open (P := []) h
 refine ⟨⟨none, none, none, none, none, none, 0, 0, 0, 0, 0, 0, w.heap.size, w.heap.size, w.heap.size, w.heap.size, w.heap.size, w.heap.size, w.heap.size, w.heap.size, w.heap.size, w.heap.size, w.heap.size, w.heap.size, [], [], [], []⟩, rfl, rfl, rfl, rfl, rfl, rfl, rfl, rfl, ⟨BkG.nil, BkG.nil, BkG.nil, BkG.nil⟩, ?_⟩
 exact ShM.close (P := [_, _, _, _, _, _]) hE hQ ((((((M.rowNil 235 4).rowNil 46 24).rowNil 160 4).rowNil 59 54).rowNil 110 5).rowNil 110 5)
end
theorem WrAt.all {w0 w : World} {lv : Value} {x : List Wr} {H : List Ent} (h : WrAt lv x H) (M : Mem w0 w H) : Ws 0 w.heap.size w lv x := (h.ws M fun _ h => h).wide (Nat.zero_le _) (Nat.le_refl _)
theorem PrBk.wrAt {cs : List Value} {ps : Pl} {es : List Ent} (h : PrBk cs ps es) {i : Nat} {q : Pr × List Wr} (hq : ps[i]? = some q) : ∃ lv, (cs.drop (i * 6)).take 6 = q.1.cellsL lv ∧ WrAt lv q.2 es := by
 obtain ⟨ad, cp, lo, hi, h1, h2, h3⟩ := h.2.2 i q hq
 exact ⟨_, h1, .inr ⟨ad, cp, lo, hi, rfl, h2, h3⟩⟩
theorem PickW.step {α : Type} {f : α → Nm} {l : List (α × List Wr)} {n : Nm} {ws : List Wr} {i : Nat} {q : α × List Wr} (h : PickW f (l.take i) n ws) (hq : l[i]? = some q) : (f q.1 = n → PickW f (l.take (i + 1)) n q.2) ∧ (f q.1 ≠ n → PickW f (l.take (i + 1)) n ws) := by
 have e : l.take (i + 1) = l.take i ++ [q] := by grind [List.take_add_one]
 rw [e]
 refine ⟨fun h1 => .inr ⟨q, by simp, h1, rfl⟩, fun h1 => ?_⟩
 rcases h with ⟨h2, h3⟩ | ⟨p, h2, h3⟩
 ·refine .inl ⟨h2, fun p hp => ?_⟩
  grind
 ·exact .inr ⟨p, List.mem_append_left _ h2, h3⟩
def JjF (wc : World) (P A : List Ent) (b bd : Nat) (X : Px) (s : Sh) (Sd : DS) (N : Int) (o : Nat) (m : Msg) (e : Ending) (w' : World) : Prop :=
 ∃ (er : Int) (Y : Px) (D : PxD) (s' : Sh) (S' : DS) (A' : List Ent),
  e = .returned (.tuple #[y0 Y D.ha D.wa D.la D.oa D.hc D.wc D.lc D.oc, .agg #[.slice D.ma Y.ml.length D.mc, Jz, .slice D.ea Y.el.length D.ec], .int .i64 er]) ∧ ShM wc w' (P ++ A') b bd s' S' ∧
  ((er ≠ 0 ∧ s' = s ∧ S' = Sd ∧ A' = A) ∨ (er = 0 ∧ StOk X Y m s s' ∧ PxGo 70 (o + 2) Y ∧ ∃ es, PxI D Y es ∧ ShO s' ∧ ShI S' s' (N + 2) ∧ A' = D.rows Y (es ++ A)))
theorem JiT {wc w' : World} {P A : List Ent} {b bd : Nat} {X : Px} {s : Sh} {Sd : DS} {N : Int} {o : Nat} {m : Msg} {x : List Wr} {e : Ending} (h : JcH wc (P ++ A) b bd X s Sd N m x e w') (hl : s.h.length = 32) (hli : LvI X.h X.lv) (hdw : ∀ p ∈ s.ps, ∀ x ∈ p.2, jb X.h p.1.name x.block) (hnd : (s.ps.map fun p => p.1.name).Nodup)
 (hov : X.ov.length ≤ o) (hht : X.h.length + X.wt.length ≤ o) : JjF wc P A b bd X s Sd N o m e w' := by
 rcases h with ⟨er, h1, rfl, h3, -⟩ | ⟨C, lv, X', s', S', D, es, rfl, h2, hc, hm, hnz, hz, hs, hst, rfl, hI, hO, hJ, hM⟩
 ·exact ⟨er, X0, ⟨none, none, none, none, none, none, 0, 0, 0, 0, 0, 0, 0, 0, 0, 0, 0, 0, 0, 0, 0, 0, 0, 0, [], [], [], []⟩, s, Sd, A, rfl, h3, .inl ⟨h1, rfl, rfl, rfl⟩⟩
 ·obtain ⟨h8, h9⟩ := Jhv hc hnz hz hs hl hli hdw hnd hov hht (fun h2 => (Qm h2 hm).2.2) hst
  exact ⟨0, X', D, s', S', _, rfl, ShM.perm hM (Zk D X'), .inr ⟨rfl, h8, h9, es, hI, hO, hJ, rfl⟩⟩
structure StI (X : Px) (s : Sh) (Sd : DS) (D : PxD) (es : List Ent) (i : Nat) : Prop where
 I : PxI D X es
 G : PxGo 70 (2 * i) X
 O : ShO s
 J : ShI Sd s (1 + 2 * (i : Int))
 li : LvI X.h X.lv
 dw : ∀ p ∈ s.ps, ∀ x ∈ p.2, jb X.h p.1.name x.block
 nd : (s.ps.map fun p => p.1.name).Nodup
theorem StI.skip {X : Px} {s : Sh} {Sd : DS} {D : PxD} {es : List Ent} {i : Nat} (h : StI X s Sd D es i) (hi : i ≤ 200) : StI X s Sd D es (i + 1) :=
 ⟨h.I, h.G.more (Nat.le_refl _) o_, h.O, h.J.mono o_ o_, h.li, h.dw, h.nd⟩
theorem StI.first {D : PxD} (h : PxI D X0 []) : StI X0 (shF su18 1) d18 D [] 0 :=
 ⟨h, ⟨.nil, Nat.zero_le _, Nat.zero_le _, Nat.zero_le _, Nat.zero_le _, Nat.zero_le _, fun q h => (by cases h), fun q h => (by cases h), fun q h => (by cases h)⟩, Jdo, Jdp, ⟨fun q h => (by cases h), fun q h => (by cases h), fun q h => (by cases h)⟩, fun q h => (by cases h), .nil⟩
abbrev V3 (D : PxD) (X : Px) : Array Value := #[.slice D.ha X.h.length D.hc, .slice D.wa X.wt.length D.wc, .slice D.la X.lv.length D.lc, .slice D.oa X.ov.length D.oc]
set_option maxHeartbeats 8000000 in
theorem JhJ (va : Value) (css : List Value) (l : List (Msg × List Wr)) (w : World) (hm : MsC css 0 w.heap.size w va l) : CQ 3 #[va] w (.bool true) := by
 obtain ⟨v0, vc, rfl, -, -⟩ := hm.1.form
 have M := Mem.start w
 refine qI Tryz.func3 201 ?_; intro a S
 refine nxD (qG [1] S ?_); clear S a; intro a S
 refine nxC (wp_seq (nxD (qG [1] S ?_))); clear S a; intro a S
 refine qY S (qH 46 S) ?_; clear S a; intro a S
 refine qG [1] S ?_; clear S a; intro a S
 refine gq [[2],[940,24]] ?_ ?_
 ·intro a h24 S
  refine cT S (nxD (qK S rfl (zg _) M ?_)); clear S M a; intro a w1 S hK M
  refine qG [1] S ?_; clear S a; intro a S
  refine gp [[4],[930]] ?_
  grind
 intro a h24 S
 refine cF S (wp_skip (nxE (qD S rfl (GR _) ?_)))
 rintro _ w2 ⟨bs, bd, b2, rfl, W0⟩; refine ⟨_, rfl, ?_⟩; clear S a; intro a S
 clear M
 refine qG [1, 1, 1, 1, 1, 1, 1] S ?_; clear S a; intro a S
 refine nxC (wp_seq (nxD (qG [1, 1, 1] S ?_))); clear S a; intro a S
 refine qi 33 S ?_ ?_
 ·clear S; intro h33 S
  cases h33
 clear S; intro h33 S
 refine qG [1] S ?_; clear S a; intro a S
 refine qY S (J9 k_ S rfl) ?_; clear S a; intro a S
 refine qG [1] S ?_; clear S a; intro a S
 refine nxC (cF S (wp_skip (nxE (qG [1] S ?_)))); clear S a; intro a S
 refine qD S rfl (D8 (A := []) W0 rfl rfl) ?_
 rintro _ w3 ⟨rfl, W1⟩; refine ⟨_, rfl, ?_⟩; clear S a; intro a S
 obtain ⟨da, dc, lo, hi, cs, es', E, hE, hQ, M⟩ := ShM.open (P := []) W1
 simp only [List.nil_append] at M
 refine qG [1, 1, 1] S ?_; clear S a; intro a S
 refine qN S M zx ?_; clear S M a; intro a w4 bP S M hB
 refine qS (sz := 4) (us := [_, _, _, _]) S M 0 ?_; clear M; intro w5 M
 refine qG [1] S ?_; clear S a; intro a S
 replace S := S.keep [0, 2, 24, 3, 5, 36, 6, 7]
 refine nxC (wp_seq (nxD (qG [1, 1] S ?_))); clear S a; intro a S
 refine gp [[2],[941,43],[5]] ?_; intro a S
 refine qN S M (zM).toArray ?_; clear S M a; intro a w6 bH S M hB
 refine nxC (wp_seq (nxD (qG [1] S ?_))); clear S a; intro a S
 refine nxC (wp_block (Jc (fun z a w' => ∃ (i : Nat) (X : Px) (s : Sh) (Sd : DS) (D : PxD) (es : List Ent), i ≤ l.length ∧ z = l.length - i ∧ StI X s Sd D es i ∧ Jk 201 a [(0, .slice v0 l.length vc), (3, pB bs), (6, p_ bP), (8, p_ bH), (9, .int .i64 (i : Int))] ∧ ShM w w' ([.blk bH (Jo s.h).toArray 40, .blk bP (V3 D X) 34] ++ D.rows X (es ++ [])) bs bd s Sd) (l.length) ?_ ?_))
 ·skip
  obtain ⟨D, h1, h2, h3, h4, h5, h6, h7, h8, hI, hM⟩ := ShM.nil0 (ShM.close (P := [_, _]) (A := []) hE hQ M)
  refine ⟨0, X0, shF su18 1, d18, D, [], Nat.zero_le _, rfl, StI.first hI, S.sub _ rfl, ?_⟩
  have hM2 := ShM.perm hM (Zk D X0)
  unfold V3
  rw [h1, h2, h3, h4, h5, h6, h7, h8]
  exact hM2
 clear S M a; intro m a wl
 rintro ⟨i, X, s, Sd, D, es, hi, rfl, hT, S, W0⟩
 obtain ⟨hI, G, hO, hJ0, hli, hdw, hnd⟩ := hT
 obtain ⟨da, dc, lo, hi9, cs, es', E, hE, hQ, M⟩ := ShM.open W0
 obtain ⟨R, hR⟩ : ∃ R, R = D.rows X (es ++ []) := ⟨_, rfl⟩
 rw [← hR] at M W0
 replace M := M.c_
 refine wp_seq (nxD (qG [1, 1] S ?_)); clear S a; intro a S
 refine qY S (Ys (E := 46) S rfl ((M.ms hm).1) k_) ?_; clear S a; intro a S
 refine qG [1] S ?_; clear S a; intro a S
 refine gq [[2],[943,47]] ?_ ?_
 ·intro a h47 S
  refine gp [[8]] ?_; intro a S
  refine qK S rfl (zg _) M ?_; clear S M a; intro a w34 S hK M
  refine qG [1] S ?_; clear S a; intro a S
  refine gp [[3],[930]] ?_
  exact ⟨rfl, M.below⟩
 intro a h47 S
 refine gp [[6]] ?_; intro a S
 obtain ⟨⟨m, ws⟩, hq⟩ : ∃ q, l[i]? = some q := ⟨_, List.getElem?_eq_getElem o_⟩
 obtain ⟨lv, hrow, hws⟩ := hm.2 i _ hq
 replace hrow : (css.drop (i * 24)).take 24 = (m.cells lv).toList := hrow
 obtain ⟨xa, xc, rfl, -, -⟩ := hws.form
 have hil : i < l.length := by omega
 refine wp_region_lit (qG [1, 1] S ?_); clear S a; intro a S
 refine qY S (qX 46 24 S ((M.ms hm).1)) ?_; clear S a; intro a S
 replace S := S.n_
 refine qY S (Ja S k_ rfl rfl ((M.ms hm).1.at_.row (i := i) hrow rfl)) ?_; clear S a; intro a S
 refine qN S M cz3 ?_; clear S M a; intro a w7 bMM S M hB
 refine qS (sz := 24) (us := [_, _, _, _, _, _, _, _, _, _, _, _, _, _, _, _, _, _, _, _, _, _, _, _]) S M 0 ?_; clear M; intro w8 M
 refine nxC (wp_seq (nxD (qY S (Ja (cs := [_, _, _, _, _, _, _, _, _, _, _, _, _, _, _, _, _, _, _, _, _, _, _, _]) S k_ rfl rfl (M.cellsAt (k := 24) 0 rfl rfl)) ?_))); clear S a; intro a S
 refine qK S rfl (Jak m xa ws.length xc _) M ?_; clear S M a; intro a w9 S hK M
 refine gq [[2],[940,55]] ?_ ?_
 ·intro a h55 S
  refine cT S (nxD (qK S rfl (zg _) M ?_)); clear S M a; intro a w10 S hK M
  refine qG [1] S ?_; clear S a; intro a S
  refine gp [[9],[930]] ?_
  exact ⟨rfl, M.below⟩
 intro a h55 S
 refine cF S (wp_skip (nxE (qG [3] S ?_))); clear S a; intro a S
 refine qS (sz := 1) (us := [_]) S M 0 ?_; clear M; intro w11 M
 refine nxA (qG [2] S ?_); clear S a; intro a S
 refine qS (sz := 1) (us := [_]) S M 0 ?_; clear M; intro w12 M
 refine nxC (YI (fun a w' => ((m.kind = 2 ∨ m.kind = 4 ∨ m.kind = 6 ∨ m.kind = 9) ∧ (m.kind = 4 → m.give = 0 ∧ m.take = 0)) ∧ Jk 201 a [(0, .slice v0 l.length vc), (3, pB bs), (6, p_ bP), (8, p_ bH), (9, .int .i64 (i : Int)), (10, p_ bMM)] ∧ Mem w w' (.blk bMM (({ m with frm := 0, to := 1 } : Msg).cells (.slice xa ws.length xc)) 46 :: .blk bH (Jo s.h).toArray 40 :: .blk bP (V3 D X) 34 :: shE bs bd s (.slice da s.ps.length dc) :: Jd lo hi9 57 6 (.slice da s.ps.length dc) s.ps.length cs :: (es' ++ (R ++ E)))) ?_ ?_)
 ·skip
  refine nxD (qR [1, 1, 1, 1] S M ?_); clear S a; intro a S
  refine qf 62 S ?_ ?_
  ·clear S; intro h62 S
   refine qG [0, 0, 0, 1, 1, 0, 0, 0, 1, 1, 0, 0, 0, 0, 0, 0, 0, 0, 0, 0, 0, 0, 0, 1] S ?_; clear S a; intro a S
   replace S := S.keep [0, 3, 6, 8, 9, 47, 10, 55, 86]
   refine gp [[5]] ?_; intro a S
   refine ⟨⟨?_, ?_⟩, S.sub _ rfl, M⟩ <;> omega
  clear S; intro h62 S
  refine qR [1, 1, 1, 1, 1] S M ?_; clear S a; intro a S
  refine qf 67 S ?_ ?_
  ·clear S; intro h67 S
   refine qG [0, 0, 0, 1, 1, 0, 0, 0, 0, 0, 0, 0, 0, 0, 0, 0, 0, 0, 1] S ?_; clear S a; intro a S
   replace S := S.keep [0, 3, 6, 8, 9, 47, 10, 55, 86]
   refine gp [[5]] ?_; intro a S
   refine ⟨⟨?_, ?_⟩, S.sub _ rfl, M⟩ <;> omega
  clear S; intro h67 S
  refine qR [1, 1, 1, 1, 1] S M ?_; clear S a; intro a S
  refine qf 72 S ?_ ?_
  ·clear S; intro h72 S
   refine qG [0, 0, 0, 0, 0, 0, 0, 0, 0, 0, 0, 0, 0, 1] S ?_; clear S a; intro a S
   replace S := S.keep [0, 3, 6, 8, 9, 47, 10, 55, 86]
   refine gp [[5]] ?_; intro a S
   refine ⟨⟨?_, ?_⟩, S.sub _ rfl, M⟩ <;> omega
  clear S; intro h72 S
  refine qR [1, 1, 1, 1] S M ?_; clear S a; intro a S
  refine qi 76 S ?_ ?_
  ·clear S; intro h76 S
   refine qG [0, 0, 0, 1, 1, 0, 0, 0, 1, 1] S ?_; clear S a; intro a S
   replace S := S.keep [0, 3, 6, 8, 9, 47, 10, 55, 86]
   refine nxC (cT S (wp_exit (ZN (jS (nxF (qG [1] S ?_)))))); clear S a; intro a S
   refine qA S ?_; clear S a; intro a S
   refine qG [1] S ?_; clear S a; intro a S
   refine nxC ?_
   exact ⟨l.length - (i + 1), by omega, i + 1, X, s, Sd, D, es, by omega, rfl, StI.skip ⟨hI, G, hO, hJ0, hli, hdw, hnd⟩ o_, S.sub _ rfl, by rw [← hR]; exact ShM.sub (ShM.close (P := [_, _, _]) hE hQ M) (.cons _ (.refl _))⟩
  clear S; intro h76 S
  refine qR [22, 1, 1, 1, 1] S M ?_; clear S a; intro a S
  refine qi 81 S ?_ ?_
  ·clear S; intro h81 S
   refine qG [0, 0, 0, 1, 1] S ?_; clear S a; intro a S
   replace S := S.keep [0, 3, 6, 8, 9, 47, 10, 55, 86]
   refine nxC (cT S (wp_exit (ZN (jS (nxF (qG [1] S ?_)))))); clear S a; intro a S
   refine qA S ?_; clear S a; intro a S
   refine qG [1] S ?_; clear S a; intro a S
   refine nxC ?_
   exact ⟨l.length - (i + 1), by omega, i + 1, X, s, Sd, D, es, by omega, rfl, StI.skip ⟨hI, G, hO, hJ0, hli, hdw, hnd⟩ o_, S.sub _ rfl, by rw [← hR]; exact ShM.sub (ShM.close (P := [_, _, _]) hE hQ M) (.cons _ (.refl _))⟩
  clear S; intro h81 S
  refine qR [23, 1, 1, 1, 1] S M ?_; clear S a; intro a S
  replace S := S.keep [0, 3, 6, 8, 9, 47, 10, 55, 86]
  refine gq [[2],[943,86]] ?_ ?_
  ·intro a h86 S
   refine gp [[3]] ?_; intro a S
   refine ⟨⟨?_, ?_⟩, S.sub _ rfl, M⟩ <;> omega
  intro a h86 S
  refine cT S (wp_exit (ZN (jS (nxF (qG [1] S ?_))))); clear S a; intro a S
  refine qA S ?_; clear S a; intro a S
  refine qG [1] S ?_; clear S a; intro a S
  refine nxC ?_
  exact ⟨l.length - (i + 1), by omega, i + 1, X, s, Sd, D, es, by omega, rfl, StI.skip ⟨hI, G, hO, hJ0, hli, hdw, hnd⟩ o_, S.sub _ rfl, by rw [← hR]; exact ShM.sub (ShM.close (P := [_, _, _]) hE hQ M) (.cons _ (.refl _))⟩
 clear S a M; intro a wc
 rintro ⟨⟨hk, hgt⟩, S, M⟩
 refine nxD (qY S (Ja (cs := [_, _, _, _]) S k_ rfl rfl (M.cellsAt (k := 4) 2 rfl rfl)) ?_); clear S a; intro a S
 refine qN S M zx ?_; clear S M a; intro a w13 bWAS S M hB
 refine qS (sz := 4) (us := [_, _, _, _]) S M 0 ?_; clear M; intro w14 M
 refine nxA (qG [1] S ?_); clear S a; intro a S
 refine qD S rfl (ZT _ (M.blk 4 rfl) ((hQ.prs (lo := lo) (hi := hi9) M (by simp) (fun e he => by simp [he]) (by have := hJ0.w8; unfold maxLen; omega)).wide (Nat.zero_le _) (Nat.le_refl _)) hQ hJ0.hl (by have := hJ0.w8; omega)) ?_
 rintro _ w15 ⟨ra, rc, lo2, hi2, cs2, es2, rfl, hB2, M2⟩; refine ⟨_, rfl, ?_⟩; clear S a; intro a S
 have W1 := ShM.perm ((ShM.close (P := [_, _, _, _]) hE hQ M).join M2) (.cons _ (Kx (L := [_, _, _, _])))
 clear M M2 hE hQ
 obtain ⟨R2, hR2⟩ : ∃ R2, R2 = es2 ++ R := ⟨_, rfl⟩
 rw [← hR2] at W1
 obtain ⟨da, dc, lo, hi9, cs, es', E, hE, hQ, M⟩ := ShM.open (P := [_, _, _, _, _]) W1
 clear W1
 have hRs : R.Sublist R2 := by rw [hR2]; exact List.sublist_append_right es2 R
 have hf := G.few o_ o_
 have hwl : ∀ q ∈ X.lv, q.2.length ≤ 1000000 := fun q h => by have h9 := G.wr q h; unfold Jv at h9; simp only [Bool.and_eq_true, decide_eq_true_eq] at h9; omega
 replace M := M.c_
 refine qG [1] S ?_; clear S a; intro a S
 refine nxA (qY S (Ja (cs := [_, _, _, _]) S k_ rfl rfl (M.cellsAt (k := 4) 4 rfl rfl)) ?_); clear S a; intro a S
 refine qG [1] S ?_; clear S a; intro a S
 refine qY S (Ja (cs := [_, _, _, _, _, _, _, _, _, _, _, _, _, _, _, _, _, _, _, _, _, _, _, _]) S k_ rfl rfl (M.cellsAt (k := 24) 2 rfl rfl)) ?_; clear S a; intro a S
 refine qD S rfl ((Z7 (A := _ :: _ :: _ :: _ ::  [_] ++ R2) (o := 2 * i) (ShM.close (P := _ :: _ :: _ :: _ ::  [_]) hE hQ M) hJ0 o_ hO (fun W M => hI.prd hf (hR ▸ M.sub (hRs.trans (List.sublist_append_right _ _)))) hI.lv.2.1 hI.ov.2.1 G.ov G.tab o_ hf G.zs hwl { m with frm := 0, to := 1 } xa xc ws (fun W M => M.argW hws) hk rfl hgt).mono fun e w' h => JiT h hJ0.hl hli hdw hnd G.ov G.tab) ?_
 rintro _ w16 ⟨er, Y, D', s', S', A', rfl, W2, hor⟩; refine ⟨_, rfl, ?_⟩; clear S M a hE hQ; intro a S
 obtain ⟨da, dc, lo, hi9, cs, es', E, hE, hQ, M⟩ := ShM.open W2
 replace M := M.c_
 refine qG [1, 1, 1, 1] S ?_; clear S a; intro a S
 refine qN S M zx ?_; clear S M a; intro a w17 bQ S M hB
 refine qN S M Qp ?_; clear S M a; intro a w18 bTT S M hB
 refine qS (sz := 4) (us := [_, _, _, _]) S M 1 ?_; clear M; intro w19 M
 refine qS (sz := 3) (us := [_, _, _]) S M 0 ?_; clear M; intro w20 M
 refine qG [1] S ?_; clear S a; intro a S
 refine nxC (wp_seq (nxD (qG [1, 1] S ?_))); clear S a; intro a S
 refine gq [[2],[940,99]] ?_ ?_
 ·intro a h99 S
  refine cT S (wp_exit (ZN (jS (nxF (qG [1] S ?_))))); clear S a; intro a S
  refine qA S ?_; clear S a; intro a S
  refine qG [1] S ?_; clear S a; intro a S
  replace S := S.keep [0, 3, 6, 8, 10, 11, 12, 13, 14, 15, 99, 9]
  refine nxC ?_
  (rcases hor with ⟨-, rfl, rfl, rfl⟩ | ⟨h, -⟩
   ·exact ⟨l.length - (i + 1), by omega, i + 1, X, s', S', D, es, by omega, rfl, StI.skip ⟨hI, G, hO, hJ0, hli, hdw, hnd⟩ o_, S.sub _ rfl, by rw [← hR]; exact ShM.sub (ShM.close (P := [_, _, _, _, _, _, _]) hE hQ M) (.cons _ (.cons _ (.cons _ (.cons _ (.cons _ (.cons_cons _ (.cons_cons _ hRs)))))))⟩
   ·omega)
 intro a h99 S
 refine gp [[4]] ?_; intro a S
 obtain ⟨hSt, hG', es3, hI', hO', hJ', hA'⟩ : StOk X Y { m with frm := 0, to := 1 } s s' ∧ PxGo 70 (2 * i + 2) Y ∧ ∃ es, PxI D' Y es ∧ ShO s' ∧ ShI S' s' (1 + 2 * (i : Int) + 2) ∧ A' = D'.rows Y (es ++ R2) := by
  rcases hor with ⟨h, -⟩ | ⟨-, h⟩
  ·omega
  ·exact h
 have hRA : R2.Sublist A' := by rw [hA']; exact List.sublist_append_right (D'.rows Y es3) R2
 refine wp_region_lit (qY S (Ja (cs := [_, _, _, _]) S k_ rfl rfl (M.cellsAt (k := 4) 1 rfl rfl)) ?_); clear S a; intro a S
 refine qS (sz := 4) (us := [_, _, _, _]) S M 6 ?_; clear M; intro w21 M
 refine nxA (qG [1] S ?_); clear S a; intro a S
 refine nxC (YI (fun a w' => ∃ (vw : Value) (wx : List Wr), WrAt vw wx A' ∧ s'.h = onF s.h wx ∧ Jk 201 a [(0, .slice v0 l.length vc), (3, pB bs), (6, p_ bP), (8, p_ bH), (9, .int .i64 (i : Int)), (11, p_ bWAS), (14, p_ bTT), (16, vw)] ∧ Mem w w' (.blk bTT #[.slice D'.ma Y.ml.length D'.mc, Jz, .slice D'.ea Y.el.length D'.ec] 53 :: .blk bQ (V3 D' Y) 34 :: Jd lo2 hi2 57 6 (.slice ra s.ps.length rc) s.ps.length cs2 :: .blk bWAS (V3 D X) 34 :: .blk bMM (({ m with frm := 0, to := 1 } : Msg).cells (.slice xa ws.length xc)) 46 :: .blk bH (Jo s.h).toArray 40 :: .blk bP (V3 D' Y) 34 :: shE bs bd s' (.slice da s'.ps.length dc) :: Jd lo hi9 57 6 (.slice da s'.ps.length dc) s'.ps.length cs :: (es' ++ (A' ++ E)))) ?_ ?_)
 ·skip
  refine wp_block (Jbe (fun a w' => ¬ (m.kind = 6 ∧ m.yes = true ∧ m.your ≠ 0) ∧ Jk 201 a [(0, .slice v0 l.length vc), (3, pB bs), (6, p_ bP), (8, p_ bH), (9, .int .i64 (i : Int)), (10, p_ bMM), (11, p_ bWAS), (14, p_ bTT), (16, .slice none 0 0)] ∧ Mem w w' (.blk bTT #[.slice D'.ma Y.ml.length D'.mc, Jz, .slice D'.ea Y.el.length D'.ec] 53 :: .blk bQ (V3 D' Y) 34 :: Jd lo2 hi2 57 6 (.slice ra s.ps.length rc) s.ps.length cs2 :: .blk bWAS (V3 D X) 34 :: .blk bMM (({ m with frm := 0, to := 1 } : Msg).cells (.slice xa ws.length xc)) 46 :: .blk bH (Jo s.h).toArray 40 :: .blk bP (V3 D' Y) 34 :: shE bs bd s' (.slice da s'.ps.length dc) :: Jd lo hi9 57 6 (.slice da s'.ps.length dc) s'.ps.length cs :: (es' ++ (A' ++ E)))) ?_ ?_)
  ·clear S M a; intro a wc
   rintro ⟨hn6, S, M⟩
   refine nxD (qR [1, 5, 1, 1] S M ?_); clear S a; intro a S
   refine qf 137 S ?_ ?_
   ·clear S; intro h137 S
    refine qG [0, 0, 0, 0, 1, 1] S ?_; clear S a; intro a S
    refine gp [[6]] ?_; intro a S
    exact ⟨_, [], .inl ⟨rfl, rfl⟩, (hSt.f3 hn6 (by rintro ⟨g1, g2⟩; omega)).trans rfl, S.sub _ rfl, M⟩
   clear S; intro h137 S
   refine qR [3, 1] S M ?_; clear S a; intro a S
   refine qY S (qH 235 S) ?_; clear S a; intro a S
   refine qG [1, 1, 1] S ?_; clear S a; intro a S
   refine gq [[2],[943,133]] ?_ ?_
   ·intro a h133 S
    refine gp [[4]] ?_; intro a S
    exact ⟨_, [], .inl ⟨rfl, rfl⟩, (hSt.f3 hn6 (by rintro ⟨g1, g2⟩; omega)).trans rfl, S.sub _ rfl, M⟩
   intro a h133 S
   refine cT S (nxD (qG [1] S ?_)); clear S a; intro a S
   refine nxC (wp_block (Jc (fun z a w' => ∃ (k : Nat) (vw : Value) (wx : List Wr), k ≤ X.lv.length ∧ z = X.lv.length - k ∧ WrAt vw wx A' ∧ PickW Lv.name (X.lv.take k) m.name wx ∧ Jk 201 a [(0, .slice v0 l.length vc), (3, pB bs), (6, p_ bP), (8, p_ bH), (9, .int .i64 (i : Int)), (10, p_ bMM), (11, p_ bWAS), (14, p_ bTT), (16, vw), (18, .int .i64 (k : Int))] ∧ Mem w w' (.blk bTT #[.slice D'.ma Y.ml.length D'.mc, Jz, .slice D'.ea Y.el.length D'.ec] 53 :: .blk bQ (V3 D' Y) 34 :: Jd lo2 hi2 57 6 (.slice ra s.ps.length rc) s.ps.length cs2 :: .blk bWAS (V3 D X) 34 :: .blk bMM (({ m with frm := 0, to := 1 } : Msg).cells (.slice xa ws.length xc)) 46 :: .blk bH (Jo s.h).toArray 40 :: .blk bP (V3 D' Y) 34 :: shE bs bd s' (.slice da s'.ps.length dc) :: Jd lo hi9 57 6 (.slice da s'.ps.length dc) s'.ps.length cs :: (es' ++ (A' ++ E)))) (X.lv.length) ?_ ?_))
   ·skip
    exact ⟨0, _, [], Nat.zero_le _, rfl, .inl ⟨rfl, rfl⟩, .inl ⟨rfl, fun p hp => (by cases hp)⟩, S.sub _ rfl, M⟩
   clear S M a; intro m a wl
   rintro ⟨k, vw, wx, hk', rfl, hvw, hpk, S, M⟩
   have hps9 := hJ0.w8
   have hl9 := G.lv
   refine wp_seq (nxD (qR [1, 3, 4] S M ?_)); clear S a; intro a S
   refine qY S (qH 59 S) ?_; clear S a; intro a S
   refine qG [1] S ?_; clear S a; intro a S
   refine gq [[2],[943,147]] ?_ ?_
   ·intro a h147 S
    refine gp [[7]] ?_; intro a S
    (obtain rfl : k = X.lv.length := by omega
     rw [List.take_length] at hpk
     exact ⟨_, _, hvw, hSt.f2 a_ o_ _ hpk, S.sub _ rfl, M⟩)
   intro a h147 S
   refine gp [[6]] ?_; intro a S
   obtain ⟨q, hq2⟩ : ∃ q, X.lv[k]? = some q := ⟨_, List.getElem?_eq_getElem o_⟩
   obtain ⟨lv, hrow2, hwa⟩ := hI.lv.at hq2
   replace hrow2 : (D.lcs.drop (k * 54)).take 54 = q.1.cellsL lv := hrow2
   have hpick := hpk.step hq2
   have hwa' : WrAt lv q.2 A' := hwa.mono fun e he => hRA.subset (hRs.subset (by rw [hR]; simp [he]))
   have hPl : ∀ {W : World} {a1 a2 a3 a4 a5 a6 a7 a8 a9 : Ent}, Mem w W (a1 :: a2 :: a3 :: a4 :: a5 :: a6 :: a7 :: a8 :: a9 :: (es' ++ (A' ++ E))) → PRd X D.ha D.wa D.la D.oa D.hc D.wc D.lc D.oc D.lcs D.ocs W := fun M => hI.prd hf (hR ▸ M.sub ((hRs.trans hRA).trans (((List.sublist_append_left A' E).trans (List.sublist_append_right es' _)).trans (List.sublist_append_right [_, _, _, _, _, _, _, _, _] _))))
   refine gp [[920]] ?_; intro a S
   refine qU S (fun w M => VH (k := 2) S k_ rfl) ?_; clear S a; intro a S
   refine qU S (fun w M => qV S M 3) ?_; clear S a; intro a S
   refine qU S (fun w M => Vz S rfl) ?_; clear S a; intro a S
   refine qU S (fun w M => qX 59 54 S ((hPl M).l.1)) ?_; clear S a; intro a S
   replace S := S.n_
   refine qU S (fun w M => VH (k := 0) S k_ rfl) ?_; clear S a; intro a S
   refine qU S (fun w M => Ja S k_ rfl rfl (((hPl M).l.1.at_.row (i := k) hrow2 rfl).part (i := 0) (k := 3) rfl)) ?_; clear S a; intro a S
   refine qU S (fun w M => VH (k := 5) S k_ rfl) ?_; clear S a; intro a S
   refine qU S (fun w M => qL3 S M 4) ?_; clear S a; intro a S
   refine qU S (fun w M => VI k_ S rfl rfl (fun w => VG 9998 ⟨_, _, _⟩ ⟨_, _, _⟩ w)) ?_; clear S a; intro a S
   refine wpQuiet_nil ?_; clear M; intro w22 M
   refine gq [[1],[943,158]] ?_ ?_
   ·intro a h158 S
    refine cF S (wp_skip (Jy (nxF (qG [1] S ?_)))); clear S a; intro a S
    refine qA S ?_; clear S a; intro a S
    refine qG [1] S ?_; clear S a; intro a S
    replace S := S.keep [0, 3, 6, 8, 9, 10, 11, 14, 16, 147, 158, 18]
    refine nxC ?_
    exact ⟨X.lv.length - (k + 1), by omega, k + 1, _, _, by omega, rfl, hvw, hpick.2 (fun h9 => JS (b := q.1.name.eqb m.name) a_ (Nm.eqb_iff.2 h9)), S.sub _ rfl, M⟩
   intro a h158 S
   refine cT S (wp_region_lit (qR [3, 4, 1] S M ?_)); clear S a; intro a S
   refine qY S (qX 59 54 S ((hPl M).l.1)) ?_; clear S a; intro a S
   replace S := S.n_
   refine qG [54] S ?_; clear S a; intro a S
   refine qY S (Jf S k_ rfl ((hPl M).l.1.at_.row (i := k) hrow2 rfl 53 (by show 53 < 54; omega))) ?_; clear S a; intro a S
   refine qG [1] S ?_; clear S a; intro a S
   replace S := S.keep [0, 3, 6, 8, 9, 10, 11, 14, 18, 147, 158, 16]
   refine wpList_nil (Jy (nxF (qG [1] S ?_))); clear S a; intro a S
   refine qA S ?_; clear S a; intro a S
   refine qG [1] S ?_; clear S a; intro a S
   refine nxC ?_
   exact ⟨X.lv.length - (k + 1), by omega, k + 1, _, _, by omega, rfl, hwa', hpick.1 (Nm.eqb_iff.1 a_), S.sub _ rfl, M⟩
  intro hE31
  refine nxD (qR [1, 5, 1, 1] S M ?_); clear S a; intro a S
  refine qf 105 S ?_ ?_
  ·clear S; intro h105 S
   refine qG [0, 0, 1, 1, 0, 0, 0, 1, 1] S ?_; clear S a; intro a S
   replace S := S.keep [0, 3, 6, 8, 9, 10, 11, 12, 13, 14, 15, 99, 16, 101]
   refine nxC (cF S (hE31 _ _ ?_))
   refine ⟨?_, S.sub _ rfl, M⟩
   rintro ⟨g1, g2, g3⟩
   simp_all
  clear S; intro h105 S
  refine qR [21, 5, 1, 1] S M ?_; clear S a; intro a S
  refine qf 109 S ?_ ?_
  ·clear S; intro h109 S
   refine qG [0, 0, 0, 1, 1] S ?_; clear S a; intro a S
   replace S := S.keep [0, 3, 6, 8, 9, 10, 11, 12, 13, 14, 15, 99, 16, 101]
   refine nxC (cF S (hE31 _ _ ?_))
   refine ⟨?_, S.sub _ rfl, M⟩
   rintro ⟨g1, g2, g3⟩
   simp_all
  clear S; intro h109 S
  refine qR [5, 5, 1, 1, 1] S M ?_; clear S a; intro a S
  replace S := S.keep [0, 3, 6, 8, 9, 10, 11, 12, 13, 14, 15, 99, 16, 101]
  refine gq [[2],[943,101]] ?_ ?_
  ·intro a h101 S
   refine cF S (hE31 _ _ ?_)
   refine ⟨?_, S.sub _ rfl, M⟩
   rintro ⟨g1, g2, g3⟩
   simp_all
  intro a h101 S
  refine cT S (nxD (qG [1] S ?_)); clear S a; intro a S
  refine nxC (wp_block (Jc (fun z a w' => ∃ (k : Nat) (vw : Value) (wx : List Wr), k ≤ s.ps.length ∧ z = s.ps.length - k ∧ WrAt vw wx A' ∧ PickW Pr.name (s.ps.take k) m.name wx ∧ Jk 201 a [(0, .slice v0 l.length vc), (3, pB bs), (6, p_ bP), (8, p_ bH), (9, .int .i64 (i : Int)), (10, p_ bMM), (11, p_ bWAS), (12, .slice ra s.ps.length rc), (14, p_ bTT), (16, vw), (17, .int .i64 (k : Int))] ∧ Mem w w' (.blk bTT #[.slice D'.ma Y.ml.length D'.mc, Jz, .slice D'.ea Y.el.length D'.ec] 53 :: .blk bQ (V3 D' Y) 34 :: Jd lo2 hi2 57 6 (.slice ra s.ps.length rc) s.ps.length cs2 :: .blk bWAS (V3 D X) 34 :: .blk bMM (({ m with frm := 0, to := 1 } : Msg).cells (.slice xa ws.length xc)) 46 :: .blk bH (Jo s.h).toArray 40 :: .blk bP (V3 D' Y) 34 :: shE bs bd s' (.slice da s'.ps.length dc) :: Jd lo hi9 57 6 (.slice da s'.ps.length dc) s'.ps.length cs :: (es' ++ (A' ++ E)))) (s.ps.length) ?_ ?_))
  ·skip
   exact ⟨0, _, [], Nat.zero_le _, rfl, .inl ⟨rfl, rfl⟩, .inl ⟨rfl, fun p hp => (by cases hp)⟩, S.sub _ rfl, M⟩
  clear S M a; intro m a wl
  rintro ⟨k, vw, wx, hk', rfl, hvw, hpk, S, M⟩
  have hps9 := hJ0.w8
  have hl9 := G.lv
  refine wp_seq (nxD (qG [1, 1] S ?_)); clear S a; intro a S
  refine qY S (Ys (E := 57) S rfl ((M.readAll 2 rfl (by have := hJ0.w8; unfold maxLen; omega))) k_) ?_; clear S a; intro a S
  refine qG [1] S ?_; clear S a; intro a S
  refine gq [[2],[943,117]] ?_ ?_
  ·intro a h117 S
   refine gp [[7]] ?_; intro a S
   (obtain rfl : k = s.ps.length := by omega
    rw [List.take_length] at hpk
    exact ⟨_, _, hvw, hSt.f1 a_ a_ a_ _ hpk, S.sub _ rfl, M⟩)
  intro a h117 S
  refine gp [[6]] ?_; intro a S
  obtain ⟨q, hq2⟩ : ∃ q, s.ps[k]? = some q := ⟨_, List.getElem?_eq_getElem o_⟩
  obtain ⟨lv, hrow2, hwa⟩ := hB2.wrAt hq2
  have hpick := hpk.step hq2
  have hwa' : WrAt lv q.2 A' := hwa.mono fun e he => hRA.subset (by rw [hR2]; exact List.mem_append_left _ he)
  refine gp [[920]] ?_; intro a S
  refine qU S (fun w M => Vz S rfl) ?_; clear S a; intro a S
  refine qU S (fun w M => Vz S rfl) ?_; clear S a; intro a S
  refine qU S (fun w M => qX 57 6 S ((M.readAll 2 rfl (by have := hJ0.w8; unfold maxLen; omega)))) ?_; clear S a; intro a S
  replace S := S.n_
  refine qU S (fun w M => VH (k := 0) S k_ rfl) ?_; clear S a; intro a S
  refine qU S (fun w M => Ja S k_ rfl rfl (((M.readAll 2 rfl (by have := hJ0.w8; unfold maxLen; omega)).at_.row (i := k) hrow2 rfl).part (i := 0) (k := 3) rfl)) ?_; clear S a; intro a S
  refine qU S (fun w M => VH (k := 5) S k_ rfl) ?_; clear S a; intro a S
  refine qU S (fun w M => qL3 S M 4) ?_; clear S a; intro a S
  refine qU S (fun w M => VI k_ S rfl rfl (fun w => VG 9998 ⟨_, _, _⟩ ⟨_, _, _⟩ w)) ?_; clear S a; intro a S
  refine wpQuiet_nil ?_; clear M; intro w23 M
  refine gq [[1],[943,127]] ?_ ?_
  ·intro a h127 S
   refine cF S (wp_skip (Jy (nxF (qG [1] S ?_)))); clear S a; intro a S
   refine qA S ?_; clear S a; intro a S
   refine qG [1] S ?_; clear S a; intro a S
   refine nxC ?_
   exact ⟨s.ps.length - (k + 1), by omega, k + 1, _, _, by omega, rfl, hvw, hpick.2 (fun h9 => JS (b := q.1.name.eqb m.name) a_ (Nm.eqb_iff.2 h9)), S.sub _ rfl, M⟩
  intro a h127 S
  refine cT S (wp_region_lit (qG [1, 1] S ?_)); clear S a; intro a S
  refine qY S (qX 57 6 S ((M.readAll 2 rfl (by have := hJ0.w8; unfold maxLen; omega)))) ?_; clear S a; intro a S
  replace S := S.n_
  refine qG [4] S ?_; clear S a; intro a S
  refine qY S (Jf S k_ rfl ((M.readAll 2 rfl (by have := hJ0.w8; unfold maxLen; omega)).at_.row (i := k) hrow2 rfl 3 (by show 3 < 6; omega))) ?_; clear S a; intro a S
  refine qG [1] S ?_; clear S a; intro a S
  replace S := S.keep [0, 3, 6, 8, 9, 10, 11, 12, 14, 17, 117, 127, 16]
  refine wpList_nil (Jy (nxF (qG [1] S ?_))); clear S a; intro a S
  refine qA S ?_; clear S a; intro a S
  refine qG [1] S ?_; clear S a; intro a S
  refine nxC ?_
  exact ⟨s.ps.length - (k + 1), by omega, k + 1, _, _, by omega, rfl, hwa', hpick.1 (Nm.eqb_iff.1 a_), S.sub _ rfl, M⟩
 clear S a M; intro a wc
 rintro ⟨vw, wx, hvw, hset, S, M⟩
 refine nxD (qY S (Ja (k := 256) (cs := _) S k_ rfl (by (rw [JF]; first | (rw [hJ0.hl]; done) | (rw [hJ'.hl]; done) | (rw [Ve, hJ0.hl]; done))) (M.cellsAt 5 rfl JC)) ?_); clear S a; intro a S
 refine qG [1] S ?_; clear S a; intro a S
 refine qK S rfl (JfN s.h vw wx _ hJ0.hl ((hvw.mono fun e he => (by simp [he])).all M)) M ?_; clear S M a; intro a w24 S hK M
 refine JN (sz := 256) S M 5 rfl k_ rfl rfl (by (rw [JF]; first | (rw [hJ0.hl]; done) | (rw [hJ'.hl]; done) | (rw [Ve, hJ0.hl]; done))) (by exact Yi _) rfl (by (rw [JF]; first | (rw [hJ0.hl]; done) | (rw [hJ'.hl]; done) | (rw [Ve, hJ0.hl]; done))) ?_; clear M; intro w25 M
 replace M := M.s_
 refine gp [[4]] ?_; intro a S
 rw [← hset] at M
 refine wp_region_lit (qG [1] S ?_); clear S a; intro a S
 refine nxC (wp_block (Jc (fun z a w' => ∃ (k : Nat), k ≤ 32 ∧ z = 32 - k ∧ Jk 201 a [(0, .slice v0 l.length vc), (3, pB bs), (6, p_ bP), (8, p_ bH), (9, .int .i64 (i : Int)), (11, p_ bWAS), (14, p_ bTT), (19, .int .i64 (k : Int))] ∧ Mem w w' (.blk bTT #[.slice D'.ma Y.ml.length D'.mc, Jz, .slice D'.ea Y.el.length D'.ec] 53 :: .blk bQ (V3 D' Y) 34 :: Jd lo2 hi2 57 6 (.slice ra s.ps.length rc) s.ps.length cs2 :: .blk bWAS (V3 D X) 34 :: .blk bMM (({ m with frm := 0, to := 1 } : Msg).cells (.slice xa ws.length xc)) 46 :: .blk bH (Jo s'.h).toArray 40 :: .blk bP (V3 D' Y) 34 :: shE bs bd s' (.slice da s'.ps.length dc) :: Jd lo hi9 57 6 (.slice da s'.ps.length dc) s'.ps.length cs :: (es' ++ (A' ++ E)))) (32) ?_ ?_))
 ·skip
  exact ⟨0, Nat.zero_le _, rfl, S.sub _ rfl, M⟩
 clear S M a; intro m a wl
 rintro ⟨k, hk', rfl, S, M⟩
 refine wp_seq (nxD (qG [1, 1] S ?_)); clear S a; intro a S
 refine gq [[2],[940,169]] ?_ ?_
 ·intro a h169 S
  refine gp [[6]] ?_; intro a S
  obtain ⟨u, hu⟩ : ∃ u, s'.h[k]? = some u := ⟨_, List.getElem?_eq_getElem (by have := hJ'.hl; omega)⟩
  refine wp_region_lit (qG [1, 1] S ?_); clear S a; intro a S
  refine qK S rfl (zn k u _ (M.blk 7 rfl) hJ'.hl hu) M ?_; clear S M a; intro a w26 S hK M
  refine qG [1, 1, 1] S ?_; clear S a; intro a S
  refine qN S M Kj ?_; clear S M a; intro a w27 bV S M hB
  refine qS (sz := 8) (us := [_, _, _, _, _, _, _, _]) S M 0 ?_; clear M; intro w28 M
  refine qG [1] S ?_; clear S a; intro a S
  refine gp [[3],[920]] ?_; intro a S
  refine qU S (fun w M => Vz S rfl) ?_; clear S a; intro a S
  refine qU S (fun w M => J2 S rfl rfl rfl) ?_; clear S a; intro a S
  refine qU S (fun w M => Vz S rfl) ?_; clear S a; intro a S
  refine qi 180 S ?_ ?_
  ·clear S; intro h180 S
   exact absurd rfl h180
  clear S; intro h180 S
  refine qU S (fun w M => qL8 S M 0) ?_; clear S a; intro a S
  refine qU S (fun w M => Vz S rfl) ?_; clear S a; intro a S
  refine qU S (fun w M => VM (m := 32) (sz := 8) S k_ rfl rfl o_) ?_; clear S a; intro a S
  replace S := S.n_
  refine qU S (fun w M => Ja (cs := [_, _, _, _, _, _, _, _]) S k_ rfl rfl (Wk (M.blk 6 rfl) hu)) ?_; clear S a; intro a S
  refine qU S (fun w M => jU k_ S rfl rfl (fun w => jP 9998 ⟨_, _, _, _, _, _, _, _⟩ ⟨_, _, _, _, _, _, _, _⟩ w)) ?_; clear S a; intro a S
  refine qU S (fun w M => Y0 S rfl rfl) ?_; clear S a; intro a S
  refine wpQuiet_nil ?_; clear M; intro w29 M
  replace S := S.keep [0, 3, 6, 8, 9, 11, 14, 19, 169, 20, 21, 186]
  refine gq [[1],[940,186]] ?_ ?_
  ·intro a h186 S
   refine cT S (nxD (qG [1] S ?_)); clear S a; intro a S
   refine gp [[13],[930]] ?_
   exact JS (b := u.eqb u) a_ (V8.eqb_iff.2 rfl)
  intro a h186 S
  refine cF S (wp_skip (Jy (nxF (qG [1] S ?_)))); clear S a; intro a S
  refine qA S ?_; clear S a; intro a S
  refine qG [1] S ?_; clear S a; intro a S
  refine nxC ?_
  skip
  replace M := M.drp 0
  exact ⟨32 - (k + 1), by omega, k + 1, by omega, rfl, S.sub _ rfl, M⟩
 intro a h169 S
 refine gp [[7]] ?_; intro a S
 have hPl : ∀ {W : World} {a1 a2 a3 a4 a5 a6 a7 a8 a9 : Ent}, Mem w W (a1 :: a2 :: a3 :: a4 :: a5 :: a6 :: a7 :: a8 :: a9 :: (es' ++ (A' ++ E))) → PRd X D.ha D.wa D.la D.oa D.hc D.wc D.lc D.oc D.lcs D.ocs W := fun M => hI.prd hf (hR ▸ M.sub ((hRs.trans hRA).trans (((List.sublist_append_left A' E).trans (List.sublist_append_right es' _)).trans (List.sublist_append_right [_, _, _, _, _, _, _, _, _] _))))
 have hfy := hG'.few o_ o_
 have hYm : ∀ {W : World} {a1 a2 a3 a4 a5 a6 a7 a8 a9 : Ent}, Mem w W (a1 :: a2 :: a3 :: a4 :: a5 :: a6 :: a7 :: a8 :: a9 :: (es' ++ (A' ++ E))) → Mem w W (D'.rows Y (es3 ++ R2)) := fun M => hA' ▸ M.sub (((List.sublist_append_left A' E).trans (List.sublist_append_right es' _)).trans (List.sublist_append_right [_, _, _, _, _, _, _, _, _] _))
 refine YH [] #[false, false, false, false, false, false, false, false, false, false, false, false, false] rfl M k_ ?_; clear M; intro w30 M
 refine kR 0 S rfl M (fun w M => Ja (cs := [_, _, _, _]) S k_ rfl rfl (M.cellsAt (k := 4) 6 rfl rfl)) ?_; clear S a; intro a S
 refine kR 1 S rfl M (fun w M => Ja (cs := [_, _, _, _]) S k_ rfl rfl (M.cellsAt (k := 4) 3 rfl rfl)) ?_; clear S a; intro a S
 refine kR 2 S rfl M (fun w M => qL3 S M 0) ?_; clear S a; intro a S
 refine kR 3 S rfl M (fun w M => Ja (k := 256) (cs := _) S k_ rfl (by (rw [JF]; first | (rw [hJ0.hl]; done) | (rw [hJ'.hl]; done) | (rw [Ve, hJ0.hl]; done))) (M.cellsAt 5 rfl JC)) ?_; clear S a; intro a S
 refine k1_ 4 ?_
 refine qK S rfl (E0 (X := Y) (X0 := X) _ (hI'.prd hfy (hYm M)) hfy (hPl M) hf (hI'.mail hfy.ml (hYm M)) hfy.ml hJ'.hl hSt.rd) M ?_; clear S M a; intro a w31 S hK M
 refine kH_ hK ?_
 refine Jj 5 S rfl (fun w => zO S rfl) ?_; clear S a; intro a S
 refine kP 6 S ?_; clear S a; intro a S
 refine qi 193 S ?_ ?_
 ·clear S; intro h193 S
  cases h193
 clear S; intro h193 S
 refine kR 7 S rfl M (fun w M => Ja (cs := [_, _, _, _]) S k_ rfl rfl (M.cellsAt (k := 4) 6 rfl rfl)) ?_; clear S a; intro a S
 refine kP 8 S ?_; clear S a; intro a S
 refine k1_ 9 ?_
 refine qD S rfl (ZT _ (M.blk 7 rfl) ((hQ.prs (lo := lo) (hi := hi9) M (by simp) (fun e he => by simp [he]) (by have := hJ'.w8; unfold maxLen; omega)).wide (Nat.zero_le _) (Nat.le_refl _)) hQ hJ'.hl (by have := hJ'.w8; omega)) ?_
 rintro _ w32 ⟨rb, rd, lo4, hi4, cs4, es4, rfl, hB4, M4⟩; refine ⟨_, rfl, ?_⟩; clear S a; intro a S; have hK := M4.below; replace M := M.grow hK
 refine kH_ hK ?_
 refine k1_ 10 ?_
 refine qK S rfl (Jah _ (hI'.prd hfy (hYm M)) hfy ((hB4.prs (lo := lo4) (hi := hi4) M4 (.head _) (fun e he => .tail _ he) (by have := hJ'.w8; unfold maxLen; omega)).wide (Nat.zero_le _) (Nat.le_refl _)) (by have := hJ'.w8; omega) (fun q h => by have h9 := hG'.wr q h; unfold Jv at h9; simp only [Bool.and_eq_true, decide_eq_true_eq] at h9; omega) (fun q h => by obtain ⟨j, hj⟩ := List.getElem?_of_mem h; obtain ⟨-, -, -, -, -, -, h9⟩ := hB4.2.2 j q hj; exact h9) hSt.li.wr hSt.dw) M ?_; clear S M a; intro a w33 S hK M
 refine kH_ hK ?_
 refine Jj 11 S rfl (fun w => zO S rfl) ?_; clear S a; intro a S
 refine Jj 12 S rfl (fun w => Y0 S rfl rfl) ?_; clear S a; intro a S
 refine gp [[2],[941,199]] ?_; intro a S
 refine cF S (wp_skip (Jy (nxF (qG [1] S ?_)))); clear S a; intro a S
 refine qA S ?_; clear S a; intro a S
 refine qG [1] S ?_; clear S a; intro a S
 replace S := S.keep [0, 3, 6, 8, 11, 14, 19, 169, 199, 9]
 refine nxC ?_
 exact ⟨l.length - (i + 1), by omega, i + 1, Y, s', S', D', es3, by omega, rfl, ⟨hI', hG', hO', by rw [show (1 + 2 * ((i + 1 : Nat) : Int)) = 1 + 2 * (i : Int) + 2 by omega]; exact hJ', hSt.li, hSt.dw, hSt.nd⟩, S.sub _ rfl, ShM.sub (ShM.close (P := [_, _, _, _, _, _, _]) hE hQ M) (.cons _ (.cons _ (.cons _ (.cons _ (.cons _ (.cons_cons _ (.cons_cons _ (by rw [hA', List.append_nil]; exact (List.sublist_append_left (D'.rows Y es3) R2)))))))))⟩
end Go.Proofs.YtocppoflhllelaaGreat
