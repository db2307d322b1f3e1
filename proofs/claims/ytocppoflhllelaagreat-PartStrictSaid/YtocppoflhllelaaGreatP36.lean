/-
  What PartStrict rests on, part 36.
-/
import Derived.Test.YtocppoflhllelaaGreatP33
import Derived.Test.YtocppoflhllelaaGreatP35
namespace Go.Proofs.YtocppoflhllelaaGreat
open Go.RowKit Go.Sort
theorem Qm {m : Msg} {x : List Wr} (hk : m.kind = 2) (h : m.may x = true) : x = [] ∧ m.name.named = true ∧ 0 ≤ m.block ∧ m.block < 32 := by
 unfold Msg.may at h
 split at h
 ·rw [Bool.and_eq_true, Msg.same_iff] at h
  obtain ⟨⟨-, hx⟩, hf⟩ := h
  rw [hk] at hx hf
  refine ⟨hx, ?_⟩
  grind [Es, Vj, Vp, yN, Ky]
 grind
abbrev PxD.rows (D : PxD) (X : Px) (R : List Ent) : List Ent :=
 Jd D.h1 D.h2 110 5 (.slice D.ha X.h.length D.hc) X.h.length (Jg X.h) :: Jd D.w1 D.w2 110 5 (.slice D.wa X.wt.length D.wc) X.wt.length (Jg X.wt) ::
  Jd D.l1 D.l2 59 54 (.slice D.la X.lv.length D.lc) X.lv.length D.lcs :: Jd D.o1 D.o2 160 4 (.slice D.oa X.ov.length D.oc) X.ov.length D.ocs ::
  Jd D.m1 D.m2 46 24 (.slice D.ma X.ml.length D.mc) X.ml.length D.mcs :: Jd D.e1 D.e2 235 4 (.slice D.ea X.el.length D.ec) X.el.length D.ecs :: R
def yn (C : PxC) (X X' : Px) (s s' : Sh) : Prop :=
 (C.m.your = 0 ∧ X' = X.say C.self XK ∧ s' = s) ∨ (C.m.your ≠ 0 ∧
   ((C.m.kind = 2 ∧ U1 C s.h s.ps X X' ∧ s' = s) ∨ (C.m.kind = 4 ∧ U0 C s.h X X' s s' ∧ s'.h = s.h) ∨ (C.m.kind = 6 ∧ JcJ C X X' s s') ∨ (C.m.kind = 9 ∧ JcI C X X' s s')))
def Px.start (X : Px) (lv : List Lr) : Px := { X with lv := lv, ml := [], el := [] }
theorem DC {o : Nat} {X : Px} {ps : Pl} {lv : List Lr} (hlv : LiveOk ps lv) (hs : SortL lv) (hz : ∀ q ∈ lv, ZSl q.1.ea q.1.ec) (h1 : X.ov.length ≤ o) (h2 : X.h.length + X.wt.length ≤ o) : PxGo 64 o (X.start lv) := by
 have h3 := Jip lv
 have h4 := hlv.1
 refine ⟨hs, h4, by show 0 + unL lv ≤ 64; omega, Nat.zero_le _, h1, h2, fun q hq => ?_, fun q hq ht => ?_, hz⟩
 ·obtain ⟨i, hi⟩ := List.getElem?_of_mem hq; exact (hlv.2 i q hi).wr
 ·obtain ⟨i, hi⟩ := List.getElem?_of_mem hq
  obtain ⟨e1, -, -, e4⟩ := (hlv.2 i q hi).ex ht
  exact (Qm e1 e4).2.2
theorem D6 {l l' : List Lr} (h : l'.map Lr.nz = l.map Lr.nz) {i : Nat} {q' : Lr} (hq : l'[i]? = some q') : ∃ q, l[i]? = some q ∧ q.nz = q'.nz := by
 have e := congrArg (fun l => l[i]?) h
 grind
theorem XL {q q' : Lr} (h : q.nz = q'.nz) : q'.1.name = q.1.name ∧ q'.1.n = q.1.n ∧ q'.1.told = q.1.told ∧ q'.1.ans = q.1.ans ∧ q'.1.exec = q.1.exec ∧ q'.2 = q.2 := by
 grind [Lr.nz]
theorem LiveOk.nz {ps : Pl} {l l' : List Lr} (h : l'.map Lr.nz = l.map Lr.nz) (H : LiveOk ps l) : LiveOk ps l' := by
 refine ⟨by have := congrArg List.length h; simp only [List.length_map] at this; rw [this]; exact H.1, fun i q' hq' => ?_⟩
 obtain ⟨q, hq, e⟩ := D6 h hq'
 obtain ⟨e1, e2, e3, e4, e5, e6⟩ := XL e
 obtain ⟨o1, o2, o3, o4, o5, o6⟩ := H.2 i q hq
 rw [← e1] at o1 o4
 refine ⟨o1, by omega, by grind, o4, fun h0 p' hp' => ?_, fun ht => ?_⟩
 ·obtain ⟨p, hp, ep⟩ := D6 h hp'
  grind [XL]
 grind
theorem Xe {ps : Pl} {l : List Lr} (H : LiveOk ps l) : SortL l := by
 suffices h : ∀ i, i ≤ l.length → SortL (l.take i) by grind [List.take_length]
 intro i
 induction i with
 | zero => intro _; exact List.Pairwise.nil
 | succ i ih =>
   intro hi
   obtain ⟨q, hq⟩ : ∃ q, l[i]? = some q := ⟨_, List.getElem?_eq_getElem o_⟩
   rw [List.take_add_one, hq]
   refine (ih o_).snoc fun p hp => ?_
   rw [List.length_take, Nat.min_eq_left o_] at hp
   rcases Nat.eq_zero_or_pos i with h0 | h0
   ·grind
   ·rw [List.getElem?_take_of_lt o_] at hp; exact (H.2 i q hq).rises h0 p hp
section
variable {w0 w : World} {A : List Ent} {C : PxC} {X : Px} {er : Int} {bd : Nat} {s : Sh} {Sd : DS}
theorem Jbj {N : Int} {c o : Nat} (W : PxS w0 w A C X er bd s Sd) (hI : ShI Sd s N) (hN : N + 2 ≤ 1000) (hO : ShO s) (G : PxGo c o X) (hc : c ≤ 900) (ho2 : o ≤ 900) (hok : OkT X.h X.wt) (hy : C.m.your ≠ 0) (hk : C.m.kind = 2 ∨ C.m.kind = 4 ∨ C.m.kind = 6 ∨ C.m.kind = 9)
 (hex : C.m.kind = 2 → C.vn = 0 ∧ ZSl C.va C.vc ∧ C.m.name.named = true ∧ 0 ≤ C.m.block ∧ C.m.block < 32) (hgt : C.m.kind = 4 → C.m.give = 0 ∧ C.m.take = 0) :
 CT (byF C.m.kind) #[pB C.b] w fun e w' => e = .returned (.tuple #[]) ∧ ∃ X' s' S', (yn C X X' s s' ∧ ShO s' ∧ ShI S' s' (N + 2)) ∧ PxS w0 w' A C X' er bd s' S' := by
 rcases hk with h | h | h | h
 ·obtain ⟨h1, h2, h3, h4, h5⟩ := hex h
  obtain ⟨b, hb⟩ := Int.eq_ofNat_of_zero_le h4
  rw [show byF C.m.kind = 79 by rw [h]; rfl]
  refine (JeF W hI hO.own G hc ho2 hok h1 h2 b hb o_ ?_).mono fun e w' ⟨e1, X', hr, W'⟩ => ⟨e1, X', s, Sd, ⟨.inr ⟨hy, .inl ⟨h, hr, rfl⟩⟩, hO, hI.mono o_ hN⟩, W'⟩
  grind [Lk.may, zJ]
 ·rw [show byF C.m.kind = 80 by rw [h]; rfl]
  exact (DW W hI hN hO G hc ho2 hok (hgt h).2 (hgt h).1).mono fun e w' ⟨e1, X', s', S', hr, hh, hO', hI', W'⟩ => ⟨e1, X', s', S', ⟨.inr ⟨hy, .inr (.inl ⟨h, hr, hh⟩)⟩, hO', hI'⟩, W'⟩
 ·rw [show byF C.m.kind = 81 by rw [h]; rfl]
  exact (Jar W hI hN hO G hc ho2 hok).mono fun e w' ⟨e1, X', s', S', hr, hO', hI', W'⟩ => ⟨e1, X', s', S', ⟨.inr ⟨hy, .inr (.inr (.inl ⟨h, hr⟩))⟩, hO', hI'⟩, W'⟩
 ·rw [show byF C.m.kind = 82 by rw [h]; rfl]
  exact (JeE W hI hN hO G hc ho2 hok).mono fun e w' ⟨e1, X', s', S', hr, hO', hI', W'⟩ => ⟨e1, X', s', S', ⟨.inr ⟨hy, .inr (.inr (.inr ⟨h, hr⟩))⟩, hO', hI'⟩, W'⟩
end
theorem Kx {α : Type} {es L Z : List α} : (es ++ (L ++ Z)).Perm (L ++ (es ++ Z)) := by
 rw [← List.append_assoc, ← List.append_assoc]; exact List.perm_append_comm.append_right _
def JcH (wc : World) (A : List Ent) (b bd : Nat) (X : Px) (s : Sh) (Sd : DS) (N : Int) (m : Msg) (x : List Wr) (e : Ending) (w' : World) : Prop :=
 (∃ er, er ≠ 0 ∧ e = .returned (.tuple #[.agg #[Jz, Jz, Jz, Jz], .agg #[Jz, Jz, Jz], .int .i64 er]) ∧ ShM wc w' A b bd s Sd ∧ ¬ (ChkP X s.ps ∧ m.may x = true)) ∨
 (∃ (C : PxC) (lv : List Lr) (X' : Px) (s' : Sh) (S' : DS) (D : PxD) (es : List Ent), C.m = m ∧ C.self = m.to ∧ ChkP X s.ps ∧ m.may x = true ∧ lv.map Lr.nz = X.lv.map Lr.nz ∧ (∀ q ∈ lv, ZSl q.1.ea q.1.ec) ∧ SortL lv ∧ yn C (X.start lv) X' s s' ∧
   e = .returned (.tuple #[.agg #[.slice D.ha X'.h.length D.hc, .slice D.wa X'.wt.length D.wc, .slice D.la X'.lv.length D.lc, .slice D.oa X'.ov.length D.oc], .agg #[.slice D.ma X'.ml.length D.mc, Jz, .slice D.ea X'.el.length D.ec], .int .i64 0]) ∧
   PxI D X' es ∧ ShO s' ∧ ShI S' s' (N + 2) ∧ ShM wc w' (D.rows X' (es ++ A)) b bd s' S')
set_option maxHeartbeats 4000000 in
theorem Z7 {wc w : World} {A : List Ent} {b bd : Nat} {s : Sh} {Sd : DS} {N : Int} {o : Nat} {X : Px} {ha wa la oa : Option Addr} {hc wc' lc oc : Nat} {lcs ocs : List Value} (hM : ShM wc w A b bd s Sd) (hI : ShI Sd s N) (hN : N + 2 ≤ 1000) (hO : ShO s) (hP : ∀ W, Mem wc W A → PRd X ha wa la oa hc wc' lc oc lcs ocs W) (h1 : Jp lcs = true) (h2 : Jp ocs = true)
 (hov : X.ov.length ≤ o) (hhw : X.h.length + X.wt.length ≤ o) (ho : o ≤ 800) (hf : X.few) (hzs : ∀ q ∈ X.lv, ZSl q.1.ea q.1.ec) (hwr : ∀ q ∈ X.lv, q.2.length ≤ 1000000)
 (m : Msg) (va : Option Addr) (vc : Nat) (x : List Wr) (hv : ∀ W, Mem wc W A → Ws 0 W.heap.size W (.slice va x.length vc) x) (hk : m.kind = 2 ∨ m.kind = 4 ∨ m.kind = 6 ∨ m.kind = 9) (hfr : m.frm = 0) (hgt : m.kind = 4 → m.give = 0 ∧ m.take = 0) :
 CT 9 #[y0 X ha wa la oa hc wc' lc oc, pB b, .agg (m.cells (.slice va x.length vc))] w (JcH wc A b bd X s Sd N m x) := by
 obtain ⟨da, dc, lo, hi, cs, es', E, hE, hQ, M⟩ := ShM.open (P := []) hM
 have hA : ∀ (W : World) (L : List Ent), Mem wc W (L ++ (es' ++ (A ++ E))) → Mem wc W A := fun W L M9 => M9.sub (((List.sublist_append_left A E).trans (List.sublist_append_right es' _)).trans (List.sublist_append_right L _))
 have hps : s.ps.length ≤ 24 := by have := hI.w8; omega
 have hsl := hI.hl
 have hob : ∀ es, BkG doS ocs X.ov es := fun es => (hP _ (hA _ [_, _] M)).o.bk h2 (fun _ => rfl) (fun _ _ => rfl)
 replace M : Mem wc w (shE b bd s (.slice da s.ps.length dc) :: Jd lo hi 57 6 (.slice da s.ps.length dc) s.ps.length cs :: (es' ++ (A ++ E))) := M
 refine qI Tryz.func9 53 ?_
 refine gp [[2]] ?_; intro a S
 refine qW_ S M ?_; intro a w1 bP S M hB
 refine qW_ S M ?_; intro a w2 bMM S M hB
 refine qN S M zx ?_; intro a w3 bZ1 S M hB
 refine qN S M Qp ?_; intro a w4 bZ2 S M hB
 refine gp [[0,1],[5],[902,3,4],[0,1]] ?_; intro a S
 refine qD S rfl (Jav _ (hP _ (hA _ [_, _, _, _, _, _] M)) hf hzs (M.blk 4 rfl) ((hQ.prs (lo := lo) (hi := hi) M (by simp) (fun e he => by grind) (by grind [maxLen])).wide (Nat.zero_le _) (Nat.le_refl _)) hQ hsl hps) ?_
 rintro _ w5 ⟨e1, rfl, hK, hchk⟩; replace M := M.grow hK
 refine gq [[0,1],[4,1,1],[2],[940,15]] ?_ ?_
 ·intro a h15 S
  refine cT S (nxD (qB_ [(0, 2), (2, 1), (3, 1)] Ji4 S ?_)); intro a S
  refine qB_ ZU [.slice none 0 0, .slice none 0 0, .slice none 0 0] S ?_
  refine go [[0,1],[900,1],[900,0],[0,1],[4]] ?_; intro a w7 S M
  refine JY S rfl (rA_ 4 1 M) (rA_ 3 0 M) rT_ ?_
  refine .inl ⟨e1, by omega, rfl, ?_, fun h => ?_⟩
  ·exact ShM.close (P := []) hE hQ (M.sub (.cons _ (.cons _ (.cons _ (.cons _ (.refl _))))))
  grind
 intro a h15 S
 refine gp [[5]] ?_; intro a S
 have hmx := hv _ (hA _ [_, _, _, _, _, _] M)
 refine gp [[1],[902,2,24]] ?_; intro a S
 refine qK S rfl (D9 m va x.length vc x _ hmx) M ?_; intro a w8 S hK M
 refine gq [[0,1],[2],[940,21]] ?_ ?_
 ·intro a h21 S
  refine cT S (nxD (qB_ [(0, 2), (2, 1), (3, 1)] Ji4 S ?_)); intro a S
  refine qB_ ZU [.slice none 0 0, .slice none 0 0, .slice none 0 0] S ?_
  refine go [[900,1],[900,0],[0,1],[4]] ?_; intro a w10 S M
  refine JY S rfl (rA_ 4 1 M) (rA_ 3 0 M) rT_ ?_
  refine .inl ⟨2, by decide, rfl, ?_, fun h => ?_⟩
  ·exact ShM.close (P := []) hE hQ (M.sub (.cons _ (.cons _ (.cons _ (.cons _ (.refl _))))))
  grind
 intro a h21 S
 refine go [[4],[910]] ?_; intro a w11 S M
 refine kR 0 S rfl M (fun w M => Ja (cs := [_, _, _, _]) S k_ rfl rfl (M.cellsAt (k := 4) 3 rfl rfl)) ?_
 refine gp [[911,2,1,3,3]] ?_; intro a S
 refine kR 5 S rfl M (fun w M => Ja (cs := [_, _, _, _, _, _, _, _, _, _, _, _, _, _, _, _, _, _, _, _, _, _, _, _]) S k_ rfl rfl (M.cellsAt (k := 24) 2 rfl rfl)) ?_; intro a S
 refine k1_ 1 ?_
 refine qD S rfl (Jas ha wa la oa hc wc' lc oc X lcs ocs _ (hP _ (hA _ [_, _, _, _, _, _] M)).h (hP _ (hA _ [_, _, _, _, _, _] M)).w (hP _ (hA _ [_, _, _, _, _, _] M)).l (hP _ (hA _ [_, _, _, _, _, _] M)).o hf h1 h2 hwr hzs) ?_
 rintro _ w12 ⟨a1, a2, a3, a4, c1, c2, c3, c4, l1, k1, l2, k2, l3, k3, l4, k4, lcs', lv', es, rfl, hnz, hz', hBl, M2⟩; refine rv_ ?_; intro a S; have hK := M2.below
 replace M := (M.join M2).perm (.cons _ (.cons _ (.cons _ (.cons _ (Kx (L := [_, _, _, _]))))))
 replace M := M.c_
 clear M2
 refine kH_ hK ?_
 refine Jj 6 S rfl (fun w => JW (ps := [(0, .tmp 25), (1, .tmp 26), (2, .tmp 28), (3, .tmp 29)]) (pl := [(0, 4), (4, 1), (5, 1), (6, 24), (30, 3), (33, 1)]) (z := [.slice none 0 0, .slice none 0 0, .slice none 0 0, .slice none 0 0, .pointer none, .int .i64 0, .int .i8 0, .int .i64 0, .int .i64 0, .int .i64 0, .int .i64 0, .int .i64 0, .int .i64 0, .int .i64 0, .int .i64 0, .int .i8 0, .int .i64 0, .int .u8 0, .int .u8 0, .int .u8 0, .int .u8 0, .int .u8 0, .int .u8 0, .int .u8 0, .int .u8 0, .int .i64 0, .bool false, .int .i64 0, .int .i64 0, .slice none 0 0, .slice none 0 0, .slice none 0 0, .slice none 0 0, .int .i64 0]) (cs := [.slice a1 X.h.length c1, .slice a2 X.wt.length c2, .slice a3 X.lv.length c3, .slice a4 X.ov.length c4, pB b, .int .i64 m.to] ++ ((m.cells (.slice va x.length vc)).toList ++ [Jz, Jz, Jz, .int .i64 0])) S k_ rfl k_) ?_; intro a S
 refine k1_ 7 ?_
 refine qW_ S M ?_; intro a w13 bB S M hB
 refine kH_ hB ?_
 refine gp [[911,8,1],[3]] ?_; intro a S
 have hchk1 : ChkP X s.ps := hchk.1 o_
 have hmay : m.may x = true := by omega
 have hlk := hchk1.live.nz hnz
 have hsrt := Xe hlk
 have hel : lv'.length = X.lv.length := by have := congrArg List.length hnz; grind
 replace M := (M.rowNil 46 24).rowNil 235 4
 replace M := M.od [1, 6, 6, 6, 6, 6, 10, 10, 10, 10]
 rw [← hel] at M
 have G0 : PxGo 64 o (X.start lv') := DC hlk hsrt hz' hov hhw
 have W0 : PxS wc w13 ([_, _, _, _] ++ A) ⟨bB, b, m.to, m, va, x.length, vc⟩ (X.start lv') 0 bd s Sd := PxS.closeL (da := da) (dc := dc) (lo := lo) (hi := hi) hE hQ (D := ⟨a1, a2, a3, a4, none, none, c1, c2, c3, c4, 0, 0, l1, k1, l2, k2, l3, k3, l4, k4, _, _, _, _, lcs', ocs, [], []⟩) ⟨hBl, hob es, BkG.nil, BkG.nil⟩ M
 have hex : m.kind = 2 → x.length = 0 ∧ ZSl va vc ∧ m.name.named = true ∧ 0 ≤ m.block ∧ m.block < 32 := fun h2 => by
  obtain ⟨e1, e2, e3, e4⟩ := Qm h2 hmay
  subst e1
  exact ⟨rfl, hmx.zsl, e2, e3, e4⟩
 obtain ⟨C, hCe⟩ : ∃ C : PxC, C = ⟨bB, b, m.to, m, va, x.length, vc⟩ := ⟨_, rfl⟩
 rw [← hCe] at W0
 have hCb : C.b = bB := by rw [hCe]
 have hCm : C.m = m := by rw [hCe]
 have hCvn : C.vn = x.length := by rw [hCe]
 have hCva : C.va = va := by rw [hCe]
 have hCvc : C.vc = vc := by rw [hCe]
 have hH := Jej (R := fun X' s' S' => yn C (X.start lv') X' s s' ∧ ShO s' ∧ ShI S' s' (N + 2)) W0 (G0.few o_ o_) (by grind) (by grind) (fun L W' hW hy => Jbj hW hI hN hO G0 o_ o_ hchk1.tab hy (by grind) (by rw [hCm, hCvn, hCva, hCvc]; exact hex) (by rw [hCm]; exact hgt))
 rw [hCb] at hH
 refine gp [[1,1]] ?_; intro a S
 refine qD S rfl (hH) ?_
 rintro _ w14 ⟨rfl, X', s', S', hR, W2⟩; refine rv_ ?_; intro a S
 obtain ⟨hst, hO', hI'⟩ : yn C (X.start lv') X' s s' ∧ ShO s' ∧ ShI S' s' (N + 2) := by
  rcases hR with ⟨-, h⟩ | ⟨h1, h2, rfl, rfl⟩
  ·exact h
  ·exact ⟨.inl ⟨h1, h2, rfl⟩, hO, hI.mono o_ hN⟩
 obtain ⟨da, dc, lo, hi, cs, es', E, D, es, hE, hQ, hI9, M⟩ := W2.openL
 rw [hCe] at M
 replace M := M.c_
 refine gp [[5,1,1,34,5,1],[2],[941,38],[4]] ?_; intro a S
 refine Yo (C := fun W => Blk W bB (D.cells X' ⟨bB, b, m.to, m, va, x.length, vc⟩ 0) 106) [8, 9] #[false, false, false, false, false, false, false, false, false, false, false] rfl M k_ ?_; intro w15 M; have hC := M.blk 4 rfl
 refine kcP 0 S hC ?_; intro a S
 refine kcP 1 S hC ?_; intro a S
 refine kcF 2 0 S hC ?_; intro a S
 refine Yf 3 S rfl hC (fun w hW => have M := M.grow hW; Ja (cs := [_, _, _, _]) S k_ rfl rfl (M.cellsAt (k := 4) 4 rfl rfl)) ?_; intro a S
 refine kcP 4 S hC ?_; intro a S
 refine kcP 5 S hC ?_; intro a S
 refine kcF 6 30 S hC ?_; intro a S
 refine JT 7 S rfl hC (fun w hC => Ja (cs := [_, _, _]) S k_ rfl rfl (hC.cellsAt (o := 30) (k := 3) rfl)) ?_; intro a S
 refine VV 8 rfl k_ ?_
 refine go [[900,1]] ?_; intro a w16 S M
 replace hC := M.blk 4 rfl
 refine nxC ⟨fun h => absurd h d_, hC, ?_⟩
 refine VV 9 rfl k_ ?_
 refine go [[900,0]] ?_; intro a w17 S M
 replace hC := M.blk 4 rfl
 refine nxC ⟨fun h => absurd h d_, hC, ?_⟩
 refine kcP 10 S hC ?_; intro a S
 refine vS k_ ?_
 replace S := S.keep [0, 1, 2, 3, 5, 6, 7, 9, 15, 21, 10, 38, 8]
 refine Jn (wp_ret (JY S rfl (rA_ 4 1 M) (rA_ 3 0 M) rT_ ?_))
 refine .inr ⟨_, lv', X', s', S', D, es, hCm, by rw [hCe], hchk1, hmay, hnz, hz', hsrt, hst, rfl, hI9, hO', hI', ?_⟩
 exact ShM.close (P := D.rows X' es) hE hQ (M.sub (.cons _ (.cons _ (.cons _ (.cons _ (.cons _ (.refl _)))))))
theorem JbG (n : Int) (w : World) : CQ 42 #[.int .i64 n] w (.agg (Nm.cells ⟨n, 1, 1⟩)) := by
 have M := Mem.start w
 refine qI Tryz.func42 5 ?_; intro a S
 refine nxD (qN S M Kg ?_); intro a w1 bZ S M hB
 refine gp [[4,1]] ?_; intro a S
 refine qB_ ZU ZA S ?_
 refine go [[900,0],[3]] ?_; intro a w2 S M
 refine Vb S rfl (rA_ 3 0 M) ?_
 exact ⟨rfl, M.below⟩
abbrev QE (k n : Int) : Msg := ⟨k, 0, 1, 1, 1, ⟨n, 1, 1⟩, 0, 0, 0, ⟨0, 0, 0, 0, 0, 0, 0, 0⟩, 0, false, 0, 0⟩
theorem yj (k n : Int) (w : World) : CQ 14 #[.int .i8 k, .int .i64 n] w (.agg ((QE k n).cells Jz)) := by
 have M := Mem.start w
 refine qI Tryz.func14 9 ?_; intro a S
 refine nxD (qN S M cz3 ?_); intro a w1 bZ S M hB
 refine gp [[4,1,1]] ?_; intro a S
 refine qK S rfl (JbG n _) M ?_; intro a w2 S hK M
 refine qB_ cz8 cz0 S ?_
 refine go [[900,0],[3]] ?_; intro a w3 S M
 refine Vb S rfl (rA_ 24 0 M) ?_
 exact ⟨rfl, M.below⟩
theorem Jez (v : Value) (ws : List Wr) (k : Int) (w : World) (hv : Ws 0 w.heap.size w v ws) : CQ 39 #[v, .int .i64 k] w (.tuple #[.agg ((J8 ws k).getD zV8).cells, .bool (J8 ws k).isSome]) := by
 have M := Mem.start w
 have hl := hv.2.1
 unfold maxLen at hl
 generalize hR : J8 ws k = Z
 refine qI Tryz.func39 26 ?_; intro a S
 refine nxD (qN S M Kj ?_); intro a w1 bO S M hB
 refine gp [[0,1],[5,1],[3]] ?_; intro a S
 refine Jc (fun m a w' => ∃ (i : Nat), i ≤ ws.length ∧ m = ws.length - i ∧ Jk 26 a [(0, v), (1, .int .i64 k), (4, p_ bO), (6, .int .i64 (i : Int))] ∧ Mem w w' [.blk bO zV8.cells 39] ∧ J8 (ws.drop i) k = Z) (ws.length) ?_ ?_
 ·skip
  exact ⟨0, Nat.zero_le _, rfl, S.sub _ rfl, M, hR⟩
 intro m a wl
 rintro ⟨i, hi, rfl, S, M, hpre⟩
 refine gp [[3,1,1]] ?_; intro a S
 refine qY S (Ys (E := 108) S rfl ((M.arg hv)) k_) ?_
 refine gq [[0,1],[2],[943,10]] ?_ ?_
 ·intro a h10 S
  refine gp [[8]] ?_; intro a S
  refine qY S (V5 (ps := []) (sz := 1) (z := Ki) (cs := [_, _, _, _, _, _, _, _]) S k_ rfl rfl) ?_
  refine go [[900,0],[0,1],[3]] ?_; intro a w3 S M
  refine Jr S rfl (rA_ 8 0 M) rT_ ?_
  obtain rfl : i = ws.length := by omega
  obtain rfl : Z = none := by rw [← hpre, List.drop_length]; rfl
  exact ⟨rfl, M.below⟩
 intro a h10 S
 refine gp [[6]] ?_; intro a S
 obtain ⟨q, hq⟩ : ∃ q, ws[i]? = some q := ⟨_, List.getElem?_eq_getElem o_⟩
 rw [jC hq] at hpre
 refine gp [[1,1,1],[907,108,9],[0,1]] ?_; intro a S
 refine qY S (Jf S k_ rfl ((M.arg hv).at_.row (i := i) (JQ hq) rfl 0 (by grind))) ?_
 refine gq [[0,1,1],[2],[943,19]] ?_ ?_
 ·intro a h19 S
  refine gp [[5,1],[901],[0,1],[2]] ?_; intro a S
  refine ⟨ws.length - (i + 1), by omega, i + 1, by omega, rfl, S.sub _ rfl, M, ?_⟩
  grind [J8]
 intro a h19 S
 refine gp [[3,1,1],[907,108,9],[0,2]] ?_; intro a S
 refine qY S (Ja S k_ rfl rfl (((M.arg hv).at_.row (i := i) (JQ hq) rfl).part (i := 1) (k := 8) rfl)) ?_
 refine go [[900,0],[0,1],[8]] ?_; intro a w2 S M
 refine Jr S rfl (rA_ 8 0 M) rT_ ?_
 obtain rfl : Z = some q.val := by grind [J8]
 exact ⟨rfl, M.below⟩
set_option maxHeartbeats 1000000 in
theorem JfN (home : List V8) (v : Value) (ws : List Wr) (w : World) (hh : home.length = 32) (hv : Ws 0 w.heap.size w v ws) : CQ 10 #[.agg (Jo home).toArray, v] w (.agg (Jo (onF home ws)).toArray) := by
 have M := Mem.start w
 have hl := hv.2.1
 have hh1 : (Jo home).length = 256 := by rw [JF, hh]
 have hh2 : ∀ x, (Jo (onF home x)).length = 256 := fun x => by rw [JF, Ve, hh]
 unfold maxLen at hl
 refine qI Tryz.func10 38 ?_; intro a S
 refine nxD (VA S M rfl rfl rfl _ rfl ?_); intro a w1 bF S M hB
 refine qN S M (zM).toArray ?_; intro a w2 bR S M hB
 refine gp [[5,1],[3]] ?_; intro a S
 refine Jc (fun m a w' => ∃ (k : Nat), k ≤ ws.length ∧ m = ws.length - k ∧ Jk 38 a [(1, v), (2, p_ bF), (4, p_ bR), (5, .int .i64 (k : Int))] ∧ Mem w w' [.blk bR zM.toArray 40, .blk bF (Jo (onF home (ws.take k))).toArray 40]) (ws.length) ?_ ?_
 ·skip
  exact ⟨0, Nat.zero_le _, rfl, S.sub _ rfl, M⟩
 intro m a wl
 rintro ⟨k, hk, rfl, S, M⟩
 refine gp [[3,1,1]] ?_; intro a S
 refine qY S (Ys (E := 108) S rfl ((M.arg hv)) k_) ?_
 refine gq [[0,1],[2],[943,9]] ?_ ?_
 ·intro a h9 S
  refine gp [[8]] ?_; intro a S
  refine qY S (Ja (k := 256) (cs := _) S k_ rfl (by grind) (M.cellsAt 1 rfl JC)) ?_; intro a S
  refine JN (sz := 256) S M 0 rfl k_ rfl rfl (by grind) (by exact Yi _) rfl (by exact WD) ?_; intro w5 M
  replace M := M.s_
  refine nxC (wp_ret (Vb S rfl (Y8 (k := 256) (cs := _) k_ rfl (by grind) (M.cellsAt 0 rfl JC)) ?_))
  obtain rfl : k = ws.length := by omega
  exact ⟨by grind, M.below⟩
 intro a h9 S
 refine gp [[6]] ?_; intro a S
 have hk' : k < ws.length := by omega
 obtain ⟨x, hx⟩ : ∃ x, ws[k]? = some x := ⟨_, List.getElem?_eq_getElem hk'⟩
 refine gp [[1,1,1],[907,108,9],[0,1]] ?_; intro a S
 refine qY S (Jf S k_ rfl ((M.arg hv).at_.row (i := k) (JQ hx) rfl 0 (by grind))) ?_
 refine gq [[0,1,1],[943,18]] ?_ ?_
 ·intro a h18 S
  refine gp [[0,0,0,0,0,0,0,1],[7,1],[901],[0,1],[2]] ?_; intro a S
  refine ⟨ws.length - (k + 1), by omega, k + 1, by omega, rfl, S.sub _ rfl, ?_⟩
  rw [yJ hx]; grind [on1, zd]
 intro a h18 S
 refine gp [[0,1,1],[907,108,9],[0,1]] ?_; intro a S
 refine qY S (Jf S k_ rfl ((M.arg hv).at_.row (i := k) (JQ hx) rfl 0 (by grind))) ?_
 refine gq [[0,1,1],[2],[943,25]] ?_ ?_
 ·intro a h25 S
  refine gp [[5,1],[901],[0,1],[2]] ?_; intro a S
  refine ⟨ws.length - (k + 1), by omega, k + 1, by omega, rfl, S.sub _ rfl, ?_⟩
  rw [yJ hx]; grind [on1, zd]
 intro a h25 S
 refine cT S ?_
 have hin : zd x.block := ⟨by omega, by omega⟩
 have hin' : 0 ≤ x.block ∧ x.block < 32 := hin
 refine go [[910,11],[911,0,1,1]] ?_; intro a w3 S M
 refine kR 2 S rfl M (fun w M => qX 108 9 S ((M.arg hv))) ?_; intro a S
 replace S := S.n_
 refine kF 3 0 S ?_; intro a S
 refine kR 4 S rfl M (fun w M => Jf S k_ rfl ((M.arg hv).at_.row (i := k) (JQ hx) rfl 0 (by grind))) ?_
 refine gp [[911,5,1,1]] ?_; intro a S
 refine kR 7 S rfl M (fun w M => qX 108 9 S ((M.arg hv))) ?_; intro a S
 replace S := S.n_
 refine kF 8 1 S ?_; intro a S
 refine kR 9 S rfl M (fun w M => Ja S k_ rfl rfl (((M.arg hv).at_.row (i := k) (JQ hx) rfl).part (i := 1) (k := 8) rfl)) ?_; intro a S
 refine Jj 10 S rfl (fun w => VM (m := 32) (sz := 8) S k_ rfl rfl o_) ?_; intro a S
 replace S := S.n_
 refine k1_ 11 ?_
 refine Ju (sz := 8) (us := [_, _, _, _, _, _, _, _]) S M 1 rfl k_ rfl rfl rfl rfl rfl rfl (by grind [List.length_nil]) ?_; intro w4 M
 replace M := M.s_
 refine kn_ ?_
 refine gp [[4,1],[901],[0,1],[2]] ?_; intro a S
 refine ⟨ws.length - (k + 1), by omega, k + 1, by omega, rfl, S.sub _ rfl, ?_⟩
 rw [yJ hx]; grind [on1, Ug, Ve]
def jb (l : List Lk) (n : Nm) (k : Int) : Prop := ∃ q ∈ l, q.name = n ∧ q.block = k ∧ q.excl = true
theorem KT (ha wa : Option Addr) (hc wn wc : Nat) (l : List Lk) (n : Nm) (k : Int) (w : World) (hv : LsL 0 w.heap.size w (.slice ha l.length hc) l) :
 CT 41 #[zh ha wa l.length hc wn wc, .agg n.cells, .int .i64 k] w fun e w' => ∃ z, e = .returned (.int .i8 z) ∧ Below w.heap.size w w' ∧ (jb l n k → z = 2) := by
 have M := Mem.start w
 have hl := hv.2.1
 unfold maxLen at hl
 refine qI Tryz.func41 43 ?_; intro a S
 refine nxD (qW_ S M ?_); intro a w1 bT S M hB
 refine qW_ S M ?_; intro a w2 bN S M hB
 refine gp [[0,1],[4,1],[5,1],[3]] ?_; intro a S
 refine Jc (fun m a w' => ∃ (i : Nat) (z : Int), i ≤ l.length ∧ m = l.length - i ∧ z ≤ 2 ∧ 0 ≤ z ∧ ((∃ q ∈ l.take i, q.name = n ∧ q.block = k ∧ q.excl = true) → z = 2) ∧ Jk 43 a [(2, .int .i64 k), (3, p_ bT), (4, p_ bN), (7, .int .i8 z), (8, .int .i64 (i : Int))] ∧ Mem w w' [.blk bN n.cells 43, .blk bT #[.slice ha l.length hc, .slice wa wn wc] 30]) (l.length) ?_ ?_
 ·skip
  exact ⟨0, 0, Nat.zero_le _, rfl, by decide, by decide, fun ⟨q, hq, _⟩ => (by cases hq), S.sub _ rfl, M⟩
 intro m a wl
 rintro ⟨i, z, hi, rfl, hz2, hz0, hz, S, M⟩
 refine gq [[3,1,1,2],[903,110],[0,1],[2],[943,13]] ?_ ?_
 ·intro a h13 S
  refine gp [[8,1,1],[3],[930]] ?_
  obtain rfl : i = l.length := by omega
  exact ⟨z, rfl, M.below, fun ⟨q, hq, h⟩ => hz ⟨q, by grind, h⟩⟩
 intro a h13 S
 refine gp [[6]] ?_; intro a S
 obtain ⟨x, hx⟩ : ∃ x, l[i]? = some x := ⟨_, List.getElem?_eq_getElem o_⟩
 have htk : ∀ P : Lk → Prop, (∃ q ∈ l.take (i + 1), P q) → (∃ q ∈ l.take i, P q) ∨ P x := fun P ⟨q, hq, h⟩ => by
  grind [List.take_add_one]
 refine gp [[920],[921,1,2,1]] ?_; intro a S
 refine qU S (fun w M => qX 110 5 S (M.arg hv)) ?_; intro a S
 replace S := S.n_
 refine gp [[921,1]] ?_; intro a S
 refine qU S (fun w M => Ja S k_ rfl rfl (((M.arg hv).at_.row (i := i) (J6 hx) rfl).part (i := 0) (k := 3) rfl)) ?_; intro a S
 refine qU S (fun w M => qL3 S M 0) ?_; intro a S
 refine qU S (fun w M => VI k_ S rfl rfl (fun w => VG 9998 ⟨_, _, _⟩ ⟨_, _, _⟩ w)) ?_
 refine gp [[921,1]] ?_; intro a S
 refine qf 24 S ?_ ?_
 ·intro h24 S
  refine Vo 8 S rfl ?_
  refine go [[921,1],[7,1],[901],[0,1],[2]] ?_; intro a w4 S M
  (refine ⟨l.length - (i + 1), by omega, i + 1, z, by omega, rfl, hz2, hz0, fun h => ?_, S.sub _ rfl, M⟩
   rcases htk _ h with h | ⟨h1, h2, -⟩
   ·grind
   grind [Nm.eqb_iff])
 intro h24 S
 refine gp [[921,1,2,1]] ?_; intro a S
 refine qU S (fun w M => qX 110 5 S (M.arg hv)) ?_; intro a S
 replace S := S.n_
 refine gp [[921,4]] ?_; intro a S
 refine qU S (fun w M => Jf S k_ rfl ((M.arg hv).at_.row (i := i) (J6 hx) rfl 3 (by grind))) ?_
 refine gi [[921,1,1,1],[2],[943,33]] ?_ ?_
 ·intro a w3 h33 S M
  refine gp [[5,1],[901],[0,1],[2]] ?_; intro a S
  (refine ⟨l.length - (i + 1), by omega, i + 1, z, by omega, rfl, hz2, hz0, fun h => ?_, S.sub _ rfl, M⟩
   rcases htk _ h with h | ⟨h1, h2, -⟩
   ·grind
   omega)
 intro a w3 h33 S M
 refine gp [[3,1]] ?_; intro a S
 refine qY S (JgI S rfl rfl) ?_
 refine gp [[0,1],[4,1,2,1],[907,110,5],[0,5]] ?_; intro a S
 refine qY S (Jf S k_ rfl ((M.arg hv).at_.row (i := i) (J6 hx) rfl 4 (by grind))) ?_
 refine gq [[2],[943,41]] ?_ ?_
 ·intro a h41 S
  refine gp [[5,1],[901],[0,1],[2]] ?_; intro a S
  (refine ⟨l.length - (i + 1), by omega, i + 1, max z 1, by omega, rfl, by omega, by omega, fun h => ?_, S.sub _ rfl, M⟩
   rcases htk _ h with h | ⟨-, -, h⟩
   ·grind
   grind)
 intro a h41 S
 refine gp [[2,1],[4,1],[901],[0,1],[2]] ?_; intro a S
 (refine ⟨l.length - (i + 1), by omega, i + 1, 2, by omega, rfl, by decide, by decide, fun _ => rfl, S.sub _ rfl, M⟩)
theorem K5 {a b : Msg} : a.same b [] [] = true ↔ a = b := by rw [Msg.same_iff]; simp
set_option maxHeartbeats 1000000 in
theorem EH {X : Px} {ha wa la oa : Option Addr} {hc wc lc oc : Nat} {lcs ocs : List Value} (m : Msg) (va : Option Addr) (vc : Nat) (w : World) (hP : PRd X ha wa la oa hc wc lc oc lcs ocs w) (hv : Ws 0 w.heap.size w (.slice va 0 vc) []) (hf : X.few) :
 CT 40 #[y0 X ha wa la oa hc wc lc oc, .agg (m.cells (.slice va 0 vc))] w fun e w' => ∃ b, e = .returned (.bool b) ∧ Below w.heap.size w w' ∧ ((∃ q ∈ X.lv, q.1.name = m.name ∧ q.1.ans = m) → b = true) := by
 have M := Mem.start w
 have f1 := hf.lv
 refine qI Tryz.func40 32 ?_; intro a S
 refine nxD (qW_ S M ?_); intro a w1 bP S M hB
 refine qW_ S M ?_; intro a w2 bG S M hB
 refine gp [[0,1],[5,1],[3]] ?_; intro a S
 refine Jc (fun z a w' => ∃ (i : Nat), i ≤ X.lv.length ∧ z = X.lv.length - i ∧ (∀ q ∈ X.lv.take i, ¬ (q.1.name = m.name ∧ q.1.ans = m)) ∧ Jk 32 a [(2, p_ bP), (3, p_ bG), (5, .int .i64 (i : Int))] ∧ Mem w w' [.blk bG (m.cells (.slice va 0 vc)) 46, .blk bP #[.slice ha X.h.length hc, .slice wa X.wt.length wc, .slice la X.lv.length lc, .slice oa X.ov.length oc] 34]) (X.lv.length) ?_ ?_
 ·skip
  exact ⟨0, Nat.zero_le _, rfl, fun q hq => (by cases hq), S.sub _ rfl, M⟩
 intro m a wl
 rintro ⟨i, hi, rfl, hno, S, M⟩
 refine gq [[3,1,3,2],[903,59],[0,1],[2],[943,10]] ?_ ?_
 ·intro a h10 S
  refine gp [[8,1],[3],[930]] ?_
  obtain rfl : i = X.lv.length := by omega
  rw [List.take_length] at hno
  exact ⟨false, rfl, M.below, fun ⟨q, hq, h⟩ => absurd h (hno q hq)⟩
 intro a h10 S
 refine gp [[6]] ?_; intro a S
 obtain ⟨q, hq⟩ : ∃ q, X.lv[i]? = some q := ⟨_, List.getElem?_eq_getElem o_⟩
 obtain ⟨xa, xc, hrow, hws⟩ := hP.l.sl hq
 replace hrow : (lcs.drop (i * 54)).take 54 = q.1.cellsL (.slice xa q.2.length xc) := hrow
 refine go [[910],[911,0,3,2,1]] ?_; intro a w3 S M
 refine kR 3 S rfl M (fun w M => qX 59 54 S ((M.rows hP.l).1)) ?_; intro a S
 replace S := S.n_
 refine kF 4 0 S ?_; intro a S
 refine kR 5 S rfl M (fun w M => Ja S k_ rfl rfl (((M.rows hP.l).1.at_.row (i := i) hrow rfl).part (i := 0) (k := 3) rfl)) ?_
 refine gp [[911,6,6],[912,7,0,3]] ?_; intro a S
 refine Jj 8 S rfl (fun w => VI k_ S rfl rfl (fun w => VG 9998 ⟨_, _, _⟩ ⟨_, _, _⟩ w)) ?_
 refine gq [[911,9,1],[943,22]] ?_ ?_
 ·intro a h22 S
  refine gp [[911,10,0,0,0,0,0,0,0,0]] ?_; intro a S
  refine Jj 18 S rfl (fun w => Y0 S rfl rfl) ?_
  refine gp [[7,1],[901],[0,1],[2]] ?_; intro a S
  refine ⟨X.lv.length - (i + 1), by omega, i + 1, by omega, rfl, fun p hp h => ?_, S.sub _ rfl, M⟩
  grind [List.take_add_one, Nm.eqb_iff]
 intro a h22 S
 refine gp [[911,10,3,2,1]] ?_; intro a S
 refine kR 13 S rfl M (fun w M => qX 59 54 S ((M.rows hP.l).1)) ?_; intro a S
 replace S := S.n_
 refine kF 14 5 S ?_; intro a S
 refine kR 15 S rfl M (fun w M => Ja S k_ rfl rfl (((M.rows hP.l).1.at_.row (i := i) hrow rfl).part (i := 5) (k := 24) rfl)) ?_; intro a S
 refine kR 16 S rfl M (fun w M => Ja (cs := [_, _, _, _, _, _, _, _, _, _, _, _, _, _, _, _, _, _, _, _, _, _, _, _]) S k_ rfl rfl (M.cellsAt (k := 24) 0 rfl rfl)) ?_; intro a S
 refine k1_ 17 ?_
 refine qK S rfl (Xn q.1.ans m Jz _ [] [] _ (Rd.nil _ _ _ _) (M.argW hv)) M ?_; intro a w4 S hK M
 refine kH_ hK ?_
 refine Jj 18 S rfl (fun w => Zq S rfl rfl) ?_
 refine gq [[2],[940,31]] ?_ ?_
 ·intro a h31 S
  refine gp [[3,1],[8],[930]] ?_
  exact ⟨true, rfl, M.below, fun _ => rfl⟩
 intro a h31 S
 refine gp [[5,1],[901],[0,1],[2]] ?_; intro a S
 refine ⟨X.lv.length - (i + 1), by omega, i + 1, by omega, rfl, fun p hp h => ?_, S.sub _ rfl, M⟩
 grind [List.take_add_one, K5]
def Gy (home : List V8) (ws : List Wr) (v : V8) (b : Nat) : Prop := J8 ws (b : Int) = some v ∨ (J8 ws (b : Int) = none ∧ home[b]? = some v)
def JgF (X X0 : Px) (ml : Mls) (home : List V8) : Prop := ∀ p ∈ ml, p.2 = [] ∧ (p.1.kind = 3 → p.1.e = 0 → ∀ q ∈ X.lv, q.1.name = p.1.name →
 (∃ x ∈ X.h, x.name = p.1.name) ∧ q.1.ans = p.1 ∧ ((∃ b, b < 32 ∧ Gy home q.2 p.1.val b) ∨ X.lv.length < X0.lv.length ∨ ∃ q0 ∈ X0.lv, q0.1.name = p.1.name ∧ q0.1.ans = p.1))
theorem JaF {α : Type} {l : List α} {i : Nat} {x : α} (hx : l[i]? = some x) {P : α → Prop} (h : ∃ q ∈ l.take (i + 1), P q) : (∃ q ∈ l.take i, P q) ∨ P x := by
 grind [List.take_add_one]
theorem JS {p : Prop} {b : Bool} (h : b = false) (h' : b = true) : p := by grind
theorem yq {home : List V8} {ws : List Wr} {v u : V8} {c : Nat} {td e : Bool} (htd : (∃ b, b < c ∧ Gy home ws v b) → td = true) (hu : home[c]? = some u) (h0 : td = true → e = true) (h1 : J8 ws (c : Int) = some v → e = true) (h2 : J8 ws (c : Int) = none → u = v → e = true) : (∃ b, b < c + 1 ∧ Gy home ws v b) → e = true := by
 rintro ⟨b, hb, h⟩
 rcases Nat.lt_or_ge b c with h3 | h3
 ·grind
 ·obtain rfl : b = c := by omega
  rcases h with h | ⟨h, h4⟩
  ·grind
  grind
set_option maxHeartbeats 4000000 in
theorem E0 {X X0 : Px} {ha wa la oa : Option Addr} {hc wc lc oc : Nat} {lcs ocs : List Value} {ha0 wa0 la0 oa0 : Option Addr} {hc0 wc0 lc0 oc0 : Nat} {lcs0 ocs0 mcs : List Value} {ma ea : Option Addr} {mc en ec : Nat} {ml : Mls} {home : List V8} (w : World)
 (hP : PRd X ha wa la oa hc wc lc oc lcs ocs w) (hf : X.few) (hP0 : PRd X0 ha0 wa0 la0 oa0 hc0 wc0 lc0 oc0 lcs0 ocs0 w) (hf0 : X0.few) (hm : RowC pmS mcs 0 w.heap.size w (.slice ma ml.length mc) ml) (hml : ml.length ≤ 1000) (hh : home.length = 32) (hR : JgF X X0 ml home) :
 CQ 12 #[y0 X ha wa la oa hc wc lc oc, y0 X0 ha0 wa0 la0 oa0 hc0 wc0 lc0 oc0, .agg #[.slice ma ml.length mc, Jz, .slice ea en ec], .agg (Jo home).toArray] w (.bool true) := by
 have M := Mem.start w
 have f1 := hf.lv
 have f2 := hf.h
 have f3 := hf0.lv
 have hh1 : (Jo home).length = 256 := by rw [JF, hh]
 refine qI Tryz.func12 142 ?_; intro a S
 refine nxD (qW_ S M ?_); intro a w1 bP S M hB
 refine qW_ S M ?_; intro a w2 bQ S M hB
 refine qW_ S M ?_; intro a w3 bT S M hB
 refine VA S M rfl rfl rfl _ rfl ?_; intro a w4 bH S M hB
 refine gp [[0,1],[5,1],[3]] ?_; intro a S
 refine Jc (fun z a w' => ∃ (i : Nat), i ≤ ml.length ∧ z = ml.length - i ∧ Jk 142 a [(4, p_ bP), (5, p_ bQ), (6, p_ bT), (7, p_ bH), (9, .int .i64 (i : Int))] ∧ Mem w w' [.blk bH (Jo home).toArray 40, .blk bT #[.slice ma ml.length mc, Jz, .slice ea en ec] 53, .blk bQ #[.slice ha0 X0.h.length hc0, .slice wa0 X0.wt.length wc0, .slice la0 X0.lv.length lc0, .slice oa0 X0.ov.length oc0] 34, .blk bP #[.slice ha X.h.length hc, .slice wa X.wt.length wc, .slice la X.lv.length lc, .slice oa X.ov.length oc] 34]) (ml.length) ?_ ?_
 ·skip
  exact ⟨0, Nat.zero_le _, rfl, S.sub _ rfl, M⟩
 intro m a wl
 rintro ⟨i, hi, rfl, S, M⟩
 refine gq [[3,1,1,2],[903,46],[0,1],[2],[943,22]] ?_ ?_
 ·intro a h22 S
  refine gp [[8,1],[3],[930]] ?_
  exact ⟨rfl, M.below⟩
 intro a h22 S
 refine gp [[6]] ?_; intro a S
 obtain ⟨⟨m, ws⟩, hq⟩ : ∃ q, ml[i]? = some q := ⟨_, List.getElem?_eq_getElem o_⟩
 obtain ⟨xa, xc, hrow, hws⟩ := hm.sl hq
 replace hrow : (mcs.drop (i * 24)).take 24 = (m.cells (.slice xa ws.length xc)).toList := hrow
 have hR2 := hR _ (List.mem_of_getElem? hq)
 obtain ⟨e, hRm⟩ := hR2
 replace e : ws = [] := e
 subst e
 have hil : i < ml.length := by omega
 replace hws : Ws 0 _ _ (.slice xa 0 xc) [] := hws
 replace hrow : (mcs.drop (i * 24)).take 24 = (m.cells (.slice xa 0 xc)).toList := hrow
 refine gp [[1,1,2,1]] ?_; intro a S
 refine qY S (qX 46 24 S ((M.rows hm).1)) ?_; intro a S
 replace S := S.n_
 refine qY S (Ja S k_ rfl rfl ((M.rows hm).1.at_.row (i := i) hrow rfl)) ?_; intro a S
 refine qN S M cz3 ?_; intro a w5 bG S M hB
 refine gi [[900,0],[5,1,1,1,1],[940,33]] ?_ ?_
 ·intro a w6 h33 S M
  refine gp [[0,0,0,0,1],[8,1],[901],[0,1],[2]] ?_; intro a S
  replace M := M.drp 0
  exact ⟨ml.length - (i + 1), by omega, i + 1, by omega, rfl, S.sub _ rfl, M⟩
 intro a w6 h33 S M
 refine gq [[0,20,1,1,1],[2],[940,37]] ?_ ?_
 ·intro a h37 S
  refine gp [[6,1],[901],[0,1],[2]] ?_; intro a S
  replace M := M.drp 0
  exact ⟨ml.length - (i + 1), by omega, i + 1, by omega, rfl, S.sub _ rfl, M⟩
 intro a h37 S
 refine gp [[5,1],[3]] ?_; intro a S
 refine Jc (fun z a w' => ∃ (k : Nat), k ≤ X.lv.length ∧ z = X.lv.length - k ∧ Jk 142 a [(4, p_ bP), (5, p_ bQ), (6, p_ bT), (7, p_ bH), (9, .int .i64 (i : Int)), (10, p_ bG), (11, .int .i64 (k : Int))] ∧ Mem w w' [.blk bG (m.cells (.slice xa 0 xc)) 46, .blk bH (Jo home).toArray 40, .blk bT #[.slice ma ml.length mc, Jz, .slice ea en ec] 53, .blk bQ #[.slice ha0 X0.h.length hc0, .slice wa0 X0.wt.length wc0, .slice la0 X0.lv.length lc0, .slice oa0 X0.ov.length oc0] 34, .blk bP #[.slice ha X.h.length hc, .slice wa X.wt.length wc, .slice la X.lv.length lc, .slice oa X.ov.length oc] 34]) (X.lv.length) ?_ ?_
 ·skip
  exact ⟨0, Nat.zero_le _, rfl, S.sub _ rfl, M⟩
 intro m a wl
 rintro ⟨k, hk, rfl, S, M⟩
 refine gq [[3,1,3,5],[903,59],[0,1],[2],[943,42]] ?_ ?_
 ·intro a h42 S
  refine gp [[8,1],[901],[0,1],[2]] ?_; intro a S
  replace M := M.drp 0
  exact ⟨ml.length - (i + 1), by omega, i + 1, by omega, rfl, S.sub _ rfl, M⟩
 intro a h42 S
 refine gp [[7]] ?_; intro a S
 obtain ⟨q, hq2⟩ : ∃ q, X.lv[k]? = some q := ⟨_, List.getElem?_eq_getElem o_⟩
 obtain ⟨ya, yc, hrow2, hws2⟩ := hP.l.sl hq2
 replace hrow2 : (lcs.drop (k * 54)).take 54 = q.1.cellsL (.slice ya q.2.length yc) := hrow2
 refine gp [[920],[921,3,5,1]] ?_; intro a S
 refine qU S (fun w M => qX 59 54 S ((M.rows hP.l).1)) ?_; intro a S
 replace S := S.n_
 refine gp [[921,1]] ?_; intro a S
 refine qU S (fun w M => Ja S k_ rfl rfl (((M.rows hP.l).1.at_.row (i := k) hrow2 rfl).part (i := 0) (k := 3) rfl)) ?_
 refine gp [[921,6]] ?_; intro a S
 refine qU S (fun w M => qL3 S M 0) ?_; intro a S
 refine qU S (fun w M => jU k_ S rfl rfl (fun w => VG 9998 ⟨_, _, _⟩ ⟨_, _, _⟩ w)) ?_
 refine gi [[2],[940,53]] ?_ ?_
 ·intro a w7 h53 S M
  refine gp [[6,1],[901],[0,1],[2]] ?_; intro a S
  exact ⟨X.lv.length - (k + 1), by omega, k + 1, by omega, rfl, S.sub _ rfl, M⟩
 intro a w7 h53 S M
 refine gp [[4]] ?_; intro a S
 have hnm : q.1.name = m.name := by
  have h9 : q.1.name.eqb m.name = true := by first | assumption | (simp_all; done)
  exact Nm.eqb_iff.1 h9
 obtain ⟨hHL, hAn, hTl⟩ := hRm o_ o_ q (List.mem_of_getElem? hq2) hnm
 refine gp [[1,1],[5,1],[3]] ?_; intro a S
 refine Jc (fun z a w' => ∃ (j : Nat) (hd : Bool), j ≤ X.h.length ∧ z = X.h.length - j ∧ ((∃ x ∈ X.h.take j, x.name = m.name) → hd = true) ∧ Jk 142 a [(4, p_ bP), (5, p_ bQ), (6, p_ bT), (7, p_ bH), (9, .int .i64 (i : Int)), (10, p_ bG), (11, .int .i64 (k : Int)), (12, .bool hd), (13, .int .i64 (j : Int))] ∧ Mem w w' [.blk bG (m.cells (.slice xa 0 xc)) 46, .blk bH (Jo home).toArray 40, .blk bT #[.slice ma ml.length mc, Jz, .slice ea en ec] 53, .blk bQ #[.slice ha0 X0.h.length hc0, .slice wa0 X0.wt.length wc0, .slice la0 X0.lv.length lc0, .slice oa0 X0.ov.length oc0] 34, .blk bP #[.slice ha X.h.length hc, .slice wa X.wt.length wc, .slice la X.lv.length lc, .slice oa X.ov.length oc] 34]) (X.h.length) ?_ ?_
 ·skip
  exact ⟨0, false, Nat.zero_le _, rfl, fun ⟨x, hx, _⟩ => (by cases hx), S.sub _ rfl, M⟩
 intro m a wl
 rintro ⟨j, hd, hj, rfl, hhd, S, M⟩
 refine gq [[3,1,1,1,5],[903,110],[0,1],[2],[940,59]] ?_ ?_
 ·intro a h59 S
  refine gp [[5]] ?_; intro a S
  obtain ⟨x, hx⟩ : ∃ x, X.h[j]? = some x := ⟨_, List.getElem?_eq_getElem o_⟩
  refine gp [[920],[921,1,1]] ?_; intro a S
  refine qi 63 S ?_ ?_
  ·intro h63 S
   refine Vo 10 S rfl ?_
   refine go [[921,1,1],[4,1],[901],[0,1],[2]] ?_; intro a w8 S M
   refine ⟨X.h.length - (j + 1), by omega, j + 1, _, by omega, rfl, fun h => ?_, S.sub _ rfl, M⟩
   rcases JaF hx h with h | h
   ·have h9 := hhd h; simp_all
   ·have h9 := Nm.eqb_iff.2 h; simp_all
  intro h63 S
  refine gp [[921,1,1,5,1]] ?_; intro a S
  refine qU S (fun w M => qX 110 5 S (M.argW hP.h)) ?_; intro a S
  replace S := S.n_
  refine gp [[921,1]] ?_; intro a S
  refine qU S (fun w M => Ja S k_ rfl rfl (((M.argW hP.h).at_.row (i := j) (J6 hx) rfl).part (i := 0) (k := 3) rfl)) ?_
  refine gp [[921,6]] ?_; intro a S
  refine qU S (fun w M => qL3 S M 0) ?_; intro a S
  refine qU S (fun w M => VI k_ S rfl rfl (fun w => VG 9998 ⟨_, _, _⟩ ⟨_, _, _⟩ w)) ?_
  refine go [[921,1,1],[4,1],[901],[0,1],[2]] ?_; intro a w9 S M
  refine ⟨X.h.length - (j + 1), by omega, j + 1, _, by omega, rfl, fun h => ?_, S.sub _ rfl, M⟩
  rcases JaF hx h with h | h
  ·have h9 := hhd h; simp_all
  ·have h9 := Nm.eqb_iff.2 h; simp_all
 intro a h59 S
 refine gp [[8]] ?_; intro a S
 obtain rfl : j = X.h.length := by omega
 rw [List.take_length] at hhd
 obtain rfl := hhd hHL
 refine go [[910],[911,0,1]] ?_; intro a w10 S M
 refine Jj 1 S rfl (fun w => zO S rfl) ?_
 refine gq [[911,2,1],[940,77]] ?_ ?_
 ·intro a h77 S
  refine gp [[911,3,0,0,0,0,0,0,0,0,0]] ?_; intro a S
  refine Jj 12 S rfl (fun w => Zq S rfl rfl) ?_
  refine gp [[5,1],[13],[930]] ?_
  first
   | exact JS (b := q.1.ans.same m [] []) a_ (K5.2 hAn)
   | exact JS (b := true) a_ rfl
 intro a h77 S
 refine gp [[911,3,3,5,1]] ?_; intro a S
 refine kR 6 S rfl M (fun w M => qX 59 54 S ((M.rows hP.l).1)) ?_; intro a S
 replace S := S.n_
 refine kF 7 5 S ?_; intro a S
 refine kR 8 S rfl M (fun w M => Ja S k_ rfl rfl (((M.rows hP.l).1.at_.row (i := k) hrow2 rfl).part (i := 5) (k := 24) rfl)) ?_; intro a S
 refine kR 9 S rfl M (fun w M => Ja (cs := [_, _, _, _, _, _, _, _, _, _, _, _, _, _, _, _, _, _, _, _, _, _, _, _]) S k_ rfl rfl (M.cellsAt (k := 24) 0 rfl rfl)) ?_; intro a S
 refine k1_ 10 ?_
 refine qK S rfl (Xn q.1.ans m Jz _ [] [] _ (Rd.nil _ _ _ _) (M.argW hws)) M ?_; intro a w11 S hK M
 refine kH_ hK ?_
 refine Jj 11 S rfl (fun w => zO S rfl) ?_; intro a S
 refine Jj 12 S rfl (fun w => Y0 S rfl rfl) ?_
 refine gq [[2],[940,87]] ?_ ?_
 ·intro a h87 S
  refine gp [[3,1],[13],[930]] ?_
  first
   | exact JS (b := q.1.ans.same m [] []) a_ (K5.2 hAn)
   | exact JS (b := true) a_ rfl
 intro a h87 S
 refine gp [[5,1],[5,1],[3]] ?_; intro a S
 refine Jc (fun z a w' => ∃ (c : Nat) (td : Bool), c ≤ 32 ∧ z = 32 - c ∧ ((∃ b, b < c ∧ Gy home q.2 m.val b) → td = true) ∧ Jk 142 a [(4, p_ bP), (5, p_ bQ), (6, p_ bT), (7, p_ bH), (9, .int .i64 (i : Int)), (10, p_ bG), (11, .int .i64 (k : Int)), (14, .bool td), (15, .int .i64 (c : Int))] ∧ Mem w w' [.blk bG (m.cells (.slice xa 0 xc)) 46, .blk bH (Jo home).toArray 40, .blk bT #[.slice ma ml.length mc, Jz, .slice ea en ec] 53, .blk bQ #[.slice ha0 X0.h.length hc0, .slice wa0 X0.wt.length wc0, .slice la0 X0.lv.length lc0, .slice oa0 X0.ov.length oc0] 34, .blk bP #[.slice ha X.h.length hc, .slice wa X.wt.length wc, .slice la X.lv.length lc, .slice oa X.ov.length oc] 34]) (32) ?_ ?_
 ·skip
  exact ⟨0, false, Nat.zero_le _, rfl, fun ⟨b, hb, _⟩ => absurd hb (Nat.not_lt_zero _), S.sub _ rfl, M⟩
 intro m a wl
 rintro ⟨c, td, hc', rfl, htd, S, M⟩
 refine gq [[3,1,1],[2],[943,89]] ?_ ?_
 ·intro a h89 S
  refine gp [[7]] ?_; intro a S
  obtain rfl : c = 32 := by omega
  refine gq [[1,1,1,1],[943,127]] ?_ ?_
  ·intro a h127 S
   refine gp [[0,0,0,0,0,0,0,0,1,1,0,0,0,0,1],[7,1],[901],[0,1],[2]] ?_; intro a S
   exact ⟨X.lv.length - (k + 1), by omega, k + 1, by omega, rfl, S.sub _ rfl, M⟩
  intro a h127 S
  refine gq [[0,3,4],[903,59],[0,3,5],[903,59],[0,1,1,1],[943,136]] ?_ ?_
  ·intro a h136 S
   refine gp [[0,0,0,0,0,1],[7,1],[901],[0,1],[2]] ?_; intro a S
   exact ⟨X.lv.length - (k + 1), by omega, k + 1, by omega, rfl, S.sub _ rfl, M⟩
  intro a h136 S
  refine gp [[902,3,4],[902,0,24]] ?_; intro a S
  refine qD S rfl (EH (X := X0) m _ _ _ ⟨M.argW hP0.h, M.argW hP0.w, M.rowsW hP0.l, M.rowsW hP0.o⟩ (M.argW hws) hf0) ?_
  rintro _ w21 ⟨bb, rfl, hK, hbf⟩; replace M := M.grow hK
  refine gq [[0,1,1],[2],[943,141]] ?_ ?_
  ·intro a h141 S
   refine gp [[5,1],[901],[0,1],[2]] ?_; intro a S
   exact ⟨X.lv.length - (k + 1), by omega, k + 1, by omega, rfl, S.sub _ rfl, M⟩
  intro a h141 S
  refine gp [[3,1],[12],[930]] ?_
  exfalso
  rcases hTl with h | h | h
  ·exact JS a_ (htd h)
  ·omega
  ·exact JS a_ (hbf h)
 intro a h89 S
 refine gp [[6]] ?_; intro a S
 obtain ⟨u, hu⟩ : ∃ u, home[c]? = some u := ⟨_, List.getElem?_eq_getElem o_⟩
 refine gp [[1,3,5,1]] ?_; intro a S
 refine qY S (qX 59 54 S ((M.rows hP.l).1)) ?_; intro a S
 replace S := S.n_
 refine qG [54] S ?_; intro a S
 refine qY S (Jf S k_ rfl ((M.rows hP.l).1.at_.row (i := k) hrow2 rfl 53 (by show 53 < 54; omega))) ?_
 refine gp [[0,1]] ?_; intro a S
 refine qK S rfl (Jez _ q.2 (c : Int) _ (M.argW hws2)) M ?_; intro a w12 S hK M
 refine qG [1, 1, 1] S ?_; intro a S
 refine qN S M Kj ?_; intro a w13 bV S M hB
 refine go [[900,0],[0,1],[2],[920],[921,1,1]] ?_; intro a S
 refine qi 104 S ?_ ?_
 ·intro h104 S
  refine gp [[921,0,0]] ?_; intro a S
  refine Vo 5 S rfl ?_
  refine gp [[921,1,1]] ?_; intro a S
  refine Vo 2 S rfl ?_
  refine gp [[921,0]] ?_; intro a S
  refine Vo 7 S rfl ?_
  refine go [[921,1,1],[4,1],[901],[0,1],[2]] ?_; intro a w15 S M
  replace M := M.drp 0
  refine ⟨32 - (c + 1), by omega, c + 1, _, by omega, rfl, yq htd hu (fun h => ?_) (fun h => ?_) (fun h h3 => ?_), S.sub _ rfl, M⟩
  ·first | rfl | exact JS a_ h
  ·have e1 : (J8 q.2 (c : Int)).isSome = true := by rw [h]; rfl
   have e2 : ((J8 q.2 (c : Int)).getD zV8).eqb m.val = true := by rw [h]; exact V8.eqb_iff.2 rfl
   first | rfl | exact e2 | exact JS a_ e1 | exact JS a_ e2
  ·have e1 : (J8 q.2 (c : Int)).isSome = false := by rw [h]; rfl
   have e2 : u.eqb m.val = true := V8.eqb_iff.2 h3
   first | rfl | exact e2 | exact JS e1 a_ | exact JS a_ e2
 intro h104 S
 refine gp [[921,1,1]] ?_; intro a S
 refine qf 106 S ?_ ?_
 ·intro h106 S
  refine Vo 4 S rfl ?_
  refine gp [[921,1,1,1,1,1,1]] ?_; intro a S
  refine qf 116 S ?_ ?_
  ·intro h116 S
   refine Vo 6 S rfl ?_
   refine go [[921,1,1,1],[4,1],[901],[0,1],[2]] ?_; intro a w20 S M
   replace M := M.drp 0
   refine ⟨32 - (c + 1), by omega, c + 1, _, by omega, rfl, yq htd hu (fun h => ?_) (fun h => ?_) (fun h h3 => ?_), S.sub _ rfl, M⟩
   ·first | rfl | exact JS a_ h
   ·have e1 : (J8 q.2 (c : Int)).isSome = true := by rw [h]; rfl
    have e2 : ((J8 q.2 (c : Int)).getD zV8).eqb m.val = true := by rw [h]; exact V8.eqb_iff.2 rfl
    first | rfl | exact e2 | exact JS a_ e1 | exact JS a_ e2
   ·have e1 : (J8 q.2 (c : Int)).isSome = false := by rw [h]; rfl
    have e2 : u.eqb m.val = true := V8.eqb_iff.2 h3
    first | rfl | exact e2 | exact JS e1 a_ | exact JS a_ e2
  intro h116 S
  refine gp [[921,1]] ?_; intro a S
  refine qU S (fun w M => VM (m := 32) (sz := 8) S k_ rfl rfl f_) ?_; intro a S
  replace S := S.n_
  refine qU S (fun w M => Ja (cs := [_, _, _, _, _, _, _, _]) S k_ rfl rfl (Wk (M.blk 2 rfl) hu)) ?_
  refine gp [[921,12]] ?_; intro a S
  refine qU S (fun w M => qL8 S M 1) ?_; intro a S
  refine qU S (fun w M => VI k_ S rfl rfl (fun w => jP 9998 ⟨_, _, _, _, _, _, _, _⟩ ⟨_, _, _, _, _, _, _, _⟩ w)) ?_
  refine go [[921,1,1,1],[4,1],[901],[0,1],[2]] ?_; intro a w19 S M
  replace M := M.drp 0
  refine ⟨32 - (c + 1), by omega, c + 1, _, by omega, rfl, yq htd hu (fun h => ?_) (fun h => ?_) (fun h h3 => ?_), S.sub _ rfl, M⟩
  ·first | rfl | exact JS a_ h
  ·have e1 : (J8 q.2 (c : Int)).isSome = true := by rw [h]; rfl
   have e2 : ((J8 q.2 (c : Int)).getD zV8).eqb m.val = true := by rw [h]; exact V8.eqb_iff.2 rfl
   first | rfl | exact e2 | exact JS a_ e1 | exact JS a_ e2
  ·have e1 : (J8 q.2 (c : Int)).isSome = false := by rw [h]; rfl
   have e2 : u.eqb m.val = true := V8.eqb_iff.2 h3
   first | rfl | exact e2 | exact JS e1 a_ | exact JS a_ e2
 intro h106 S
 refine qU S (fun w M => qL8 S M 0) ?_
 refine gp [[921,12]] ?_; intro a S
 refine qU S (fun w M => qL8 S M 1) ?_; intro a S
 refine qU S (fun w M => VI k_ S rfl rfl (fun w => jP 9998 ⟨_, _, _, _, _, _, _, _⟩ ⟨_, _, _, _, _, _, _, _⟩ w)) ?_
 refine gp [[921,1,1,1]] ?_; intro a S
 refine qi 113 S ?_ ?_
 ·intro h113 S
  refine Vo 2 S rfl ?_
  refine gp [[921,0]] ?_; intro a S
  refine Vo 7 S rfl ?_
  refine go [[921,1,1],[4,1],[901],[0,1],[2]] ?_; intro a w16 S M
  replace M := M.drp 0
  refine ⟨32 - (c + 1), by omega, c + 1, _, by omega, rfl, yq htd hu (fun h => ?_) (fun h => ?_) (fun h h3 => ?_), S.sub _ rfl, M⟩
  ·first | rfl | exact JS a_ h
  ·have e1 : (J8 q.2 (c : Int)).isSome = true := by rw [h]; rfl
   have e2 : ((J8 q.2 (c : Int)).getD zV8).eqb m.val = true := by rw [h]; exact V8.eqb_iff.2 rfl
   first | rfl | exact e2 | exact JS a_ e1 | exact JS a_ e2
  ·have e1 : (J8 q.2 (c : Int)).isSome = false := by rw [h]; rfl
   have e2 : u.eqb m.val = true := V8.eqb_iff.2 h3
   first | rfl | exact e2 | exact JS e1 a_ | exact JS a_ e2
 intro h113 S
 refine gp [[921,1,1,1]] ?_; intro a S
 refine qf 116 S ?_ ?_
 ·intro h116 S
  refine Vo 6 S rfl ?_
  refine go [[921,1,1,1],[4,1],[901],[0,1],[2]] ?_; intro a w18 S M
  replace M := M.drp 0
  refine ⟨32 - (c + 1), by omega, c + 1, _, by omega, rfl, yq htd hu (fun h => ?_) (fun h => ?_) (fun h h3 => ?_), S.sub _ rfl, M⟩
  ·first | rfl | exact JS a_ h
  ·have e1 : (J8 q.2 (c : Int)).isSome = true := by rw [h]; rfl
   have e2 : ((J8 q.2 (c : Int)).getD zV8).eqb m.val = true := by rw [h]; exact V8.eqb_iff.2 rfl
   first | rfl | exact e2 | exact JS a_ e1 | exact JS a_ e2
  ·have e1 : (J8 q.2 (c : Int)).isSome = false := by rw [h]; rfl
   have e2 : u.eqb m.val = true := V8.eqb_iff.2 h3
   first | rfl | exact e2 | exact JS e1 a_ | exact JS a_ e2
 intro h116 S
 refine gp [[921,1]] ?_; intro a S
 refine qU S (fun w M => VM (m := 32) (sz := 8) S k_ rfl rfl f_) ?_; intro a S
 replace S := S.n_
 refine qU S (fun w M => Ja (cs := [_, _, _, _, _, _, _, _]) S k_ rfl rfl (Wk (M.blk 2 rfl) hu)) ?_
 refine gp [[921,12]] ?_; intro a S
 refine qU S (fun w M => qL8 S M 1) ?_; intro a S
 refine qU S (fun w M => VI k_ S rfl rfl (fun w => jP 9998 ⟨_, _, _, _, _, _, _, _⟩ ⟨_, _, _, _, _, _, _, _⟩ w)) ?_
 refine go [[921,1,1,1],[4,1],[901],[0,1],[2]] ?_; intro a w17 S M
 replace M := M.drp 0
 refine ⟨32 - (c + 1), by omega, c + 1, _, by omega, rfl, yq htd hu (fun h => ?_) (fun h => ?_) (fun h h3 => ?_), S.sub _ rfl, M⟩
 ·first | rfl | exact JS a_ h
 ·have e1 : (J8 q.2 (c : Int)).isSome = true := by rw [h]; rfl
  have e2 : ((J8 q.2 (c : Int)).getD zV8).eqb m.val = true := by rw [h]; exact V8.eqb_iff.2 rfl
  first | rfl | exact e2 | exact JS a_ e1 | exact JS a_ e2
 ·have e1 : (J8 q.2 (c : Int)).isSome = false := by rw [h]; rfl
  have e2 : u.eqb m.val = true := V8.eqb_iff.2 h3
  first | rfl | exact e2 | exact JS e1 a_ | exact JS a_ e2
set_option maxHeartbeats 1000000 in
theorem Jah {X : Px} {ha wa la oa : Option Addr} {hc wc lc oc : Nat} {lcs ocs cs : List Value} {da : Option Addr} {dc : Nat} {ps : Pl} (w : World)
 (hP : PRd X ha wa la oa hc wc lc oc lcs ocs w) (hf : X.few) (hd : PrsC cs 0 w.heap.size w (.slice da ps.length dc) ps) (hps : ps.length ≤ 1000) (hwl : ∀ q ∈ X.lv, q.2.length ≤ 1000000) (hwp : ∀ q ∈ ps, q.2.length ≤ 1000000)
 (h1 : ∀ q ∈ X.lv, ∀ x ∈ q.2, jb X.h q.1.name x.block) (h2 : ∀ q ∈ ps, ∀ x ∈ q.2, jb X.h q.1.name x.block) :
 CQ 13 #[y0 X ha wa la oa hc wc lc oc, .slice da ps.length dc] w (.bool true) := by
 have M := Mem.start w
 have f1 := hf.lv
 refine qI Tryz.func13 81 ?_; intro a S
 refine nxD (qW_ S M ?_); intro a w1 bP S M hB
 refine gp [[0,1],[5,1],[3]] ?_; intro a S
 refine Jc (fun z a w' => ∃ (i : Nat), i ≤ X.lv.length ∧ z = X.lv.length - i ∧ Jk 81 a [(1, .slice da ps.length dc), (2, p_ bP), (5, .int .i64 (i : Int))] ∧ Mem w w' [.blk bP #[.slice ha X.h.length hc, .slice wa X.wt.length wc, .slice la X.lv.length lc, .slice oa X.ov.length oc] 34]) (X.lv.length) ?_ ?_
 ·skip
  exact ⟨0, Nat.zero_le _, rfl, S.sub _ rfl, M⟩
 intro m a wl
 rintro ⟨i, hi, rfl, S, M⟩
 refine gq [[3,1,3,1],[903,59],[0,1],[2],[940,13]] ?_ ?_
 ·intro a h13 S
  refine gp [[6]] ?_; intro a S
  obtain ⟨q, hq⟩ : ∃ q, X.lv[i]? = some q := ⟨_, List.getElem?_eq_getElem o_⟩
  have hqm := List.mem_of_getElem? hq
  have hql := hwl q hqm
  obtain ⟨ya, yc, hrow, hws⟩ := hP.l.sl hq
  replace hrow : (lcs.drop (i * 54)).take 54 = q.1.cellsL (.slice ya q.2.length yc) := hrow
  refine gp [[1,1],[3]] ?_; intro a S
  refine Jc (fun z a w' => ∃ (k : Nat), k ≤ q.2.length ∧ z = q.2.length - k ∧ Jk 81 a [(1, .slice da ps.length dc), (2, p_ bP), (5, .int .i64 (i : Int)), (6, .int .i64 (k : Int))] ∧ Mem w w' [.blk bP #[.slice ha X.h.length hc, .slice wa X.wt.length wc, .slice la X.lv.length lc, .slice oa X.ov.length oc] 34]) (q.2.length) ?_ ?_
  ·skip
   exact ⟨0, Nat.zero_le _, rfl, S.sub _ rfl, M⟩
  intro m a wl
  rintro ⟨k, hk, rfl, S, M⟩
  refine gp [[3,1,3,1,1]] ?_; intro a S
  refine qY S (qX 59 54 S ((M.rows hP.l).1)) ?_; intro a S
  replace S := S.n_
  refine qG [54] S ?_; intro a S
  refine qY S (Jf S k_ rfl ((M.rows hP.l).1.at_.row (i := i) hrow rfl 53 (by simp_all))) ?_
  refine gq [[903,108],[0,1],[2],[943,24]] ?_ ?_
  ·intro a h24 S
   refine gp [[8,1],[901],[0,1],[2]] ?_; intro a S
   exact ⟨X.lv.length - (i + 1), by omega, i + 1, by omega, rfl, S.sub _ rfl, M⟩
  intro a h24 S
  refine gp [[6]] ?_; intro a S
  obtain ⟨x, hx⟩ : ∃ x, q.2[k]? = some x := ⟨_, List.getElem?_eq_getElem o_⟩
  refine go [[910],[911,0,1],[912,1,0,2],[911,2,3,1,1]] ?_; intro a w2 S M
  refine kR 5 S rfl M (fun w M => qX 59 54 S ((M.rows hP.l).1)) ?_; intro a S
  replace S := S.n_
  refine kF 6 0 S ?_; intro a S
  refine kR 7 S rfl M (fun w M => Ja S k_ rfl rfl (((M.rows hP.l).1.at_.row (i := i) hrow rfl).part (i := 0) (k := 3) rfl)) ?_
  refine gp [[911,8,3,1,1]] ?_; intro a S
  refine kR 11 S rfl M (fun w M => qX 59 54 S ((M.rows hP.l).1)) ?_; intro a S
  replace S := S.n_
  refine kF 12 53 S ?_; intro a S
  refine kR 13 S rfl M (fun w M => Jf S k_ rfl ((M.rows hP.l).1.at_.row (i := i) hrow rfl 53 (by simp_all))) ?_
  refine gp [[911,14,1]] ?_; intro a S
  refine kR 15 S rfl M (fun w M => qX 108 9 S (M.argW hws)) ?_; intro a S
  replace S := S.n_
  refine kF 16 0 S ?_; intro a S
  refine kR 17 S rfl M (fun w M => Jf S k_ rfl ((M.argW hws).at_.row (i := k) (JQ hx) rfl 0 (by grind))) ?_; intro a S
  refine k1_ 18 ?_
  refine qD S rfl (KT _ _ _ _ _ X.h q.1.name x.block _ (M.argW hP.h)) ?_
  rintro _ w3 ⟨z, rfl, hK, hz⟩; obtain rfl := hz (h1 q hqm x (List.mem_of_getElem? hx)); replace M := M.grow hK
  refine gp [[2]] ?_; intro a S
  refine ⟨fun _ => hK, ?_⟩
  refine Jj 19 S rfl (fun w => J2 S rfl rfl rfl) ?_
  refine gp [[2],[941,46],[5,1],[901],[0,1],[2]] ?_; intro a S
  exact ⟨q.2.length - (k + 1), by omega, k + 1, by omega, rfl, S.sub _ rfl, M⟩
 intro a h13 S
 refine gp [[9,1],[3]] ?_; intro a S
 refine Jc (fun z a w' => ∃ (i : Nat), i ≤ ps.length ∧ z = ps.length - i ∧ Jk 81 a [(1, .slice da ps.length dc), (2, p_ bP), (7, .int .i64 (i : Int))] ∧ Mem w w' [.blk bP #[.slice ha X.h.length hc, .slice wa X.wt.length wc, .slice la X.lv.length lc, .slice oa X.ov.length oc] 34]) (ps.length) ?_ ?_
 ·skip
  exact ⟨0, Nat.zero_le _, rfl, S.sub _ rfl, M⟩
 intro m a wl
 rintro ⟨i, hi, rfl, S, M⟩
 refine gq [[3,1,1],[903,57],[0,1],[2],[943,50]] ?_ ?_
 ·intro a h50 S
  refine gp [[8,1],[3],[930]] ?_
  exact ⟨rfl, M.below⟩
 intro a h50 S
 refine gp [[6]] ?_; intro a S
 obtain ⟨q, hq⟩ : ∃ q, ps[i]? = some q := ⟨_, List.getElem?_eq_getElem o_⟩
 have hqm := List.mem_of_getElem? hq
 have hql := hwp q hqm
 obtain ⟨ya, yc, hrow, hws⟩ := hd.sl hq
 replace hrow : (cs.drop (i * 6)).take 6 = q.1.cellsL (.slice ya q.2.length yc) := hrow
 refine gp [[1,1],[3]] ?_; intro a S
 refine Jc (fun z a w' => ∃ (k : Nat), k ≤ q.2.length ∧ z = q.2.length - k ∧ Jk 81 a [(1, .slice da ps.length dc), (2, p_ bP), (7, .int .i64 (i : Int)), (8, .int .i64 (k : Int))] ∧ Mem w w' [.blk bP #[.slice ha X.h.length hc, .slice wa X.wt.length wc, .slice la X.lv.length lc, .slice oa X.ov.length oc] 34]) (q.2.length) ?_ ?_
 ·skip
  exact ⟨0, Nat.zero_le _, rfl, S.sub _ rfl, M⟩
 intro m a wl
 rintro ⟨k, hk, rfl, S, M⟩
 refine gp [[3,1,1,1]] ?_; intro a S
 refine qY S (qX 57 6 S ((M.prsW hd).1)) ?_; intro a S
 replace S := S.n_
 refine qG [4] S ?_; intro a S
 refine qY S (Jf S k_ rfl ((M.prsW hd).1.at_.row (i := i) hrow rfl 3 (by show 3 < 6; omega))) ?_
 refine gq [[903,108],[0,1],[2],[943,60]] ?_ ?_
 ·intro a h60 S
  refine gp [[8,1],[901],[0,1],[2]] ?_; intro a S
  exact ⟨ps.length - (i + 1), by omega, i + 1, by omega, rfl, S.sub _ rfl, M⟩
 intro a h60 S
 refine gp [[6]] ?_; intro a S
 obtain ⟨x, hx⟩ : ∃ x, q.2[k]? = some x := ⟨_, List.getElem?_eq_getElem o_⟩
 refine go [[910],[911,0,1],[912,1,0,2],[911,2,1,1]] ?_; intro a w4 S M
 refine kR 4 S rfl M (fun w M => qX 57 6 S ((M.prsW hd).1)) ?_; intro a S
 replace S := S.n_
 refine kF 5 0 S ?_; intro a S
 refine kR 6 S rfl M (fun w M => Ja S k_ rfl rfl (((M.prsW hd).1.at_.row (i := i) hrow rfl).part (i := 0) (k := 3) rfl)) ?_
 refine gp [[911,7,1,1]] ?_; intro a S
 refine kR 9 S rfl M (fun w M => qX 57 6 S ((M.prsW hd).1)) ?_; intro a S
 replace S := S.n_
 refine kF 10 3 S ?_; intro a S
 refine kR 11 S rfl M (fun w M => Jf S k_ rfl ((M.prsW hd).1.at_.row (i := i) hrow rfl 3 (by show 3 < 6; omega))) ?_
 refine gp [[911,12,1]] ?_; intro a S
 refine kR 13 S rfl M (fun w M => qX 108 9 S (M.argW hws)) ?_; intro a S
 replace S := S.n_
 refine kF 14 0 S ?_; intro a S
 refine kR 15 S rfl M (fun w M => Jf S k_ rfl ((M.argW hws).at_.row (i := k) (JQ hx) rfl 0 (by show 0 < 9; omega))) ?_; intro a S
 refine k1_ 16 ?_
 refine qD S rfl (KT _ _ _ _ _ X.h q.1.name x.block _ (M.argW hP.h)) ?_
 rintro _ w5 ⟨z, rfl, hK, hz⟩; obtain rfl := hz (h2 q hqm x (List.mem_of_getElem? hx)); replace M := M.grow hK
 refine gp [[2]] ?_; intro a S
 refine ⟨fun _ => hK, ?_⟩
 refine Jj 17 S rfl (fun w => J2 S rfl rfl rfl) ?_
 refine gp [[2],[941,80],[5,1],[901],[0,1],[2]] ?_; intro a S
 exact ⟨q.2.length - (k + 1), by omega, k + 1, by omega, rfl, S.sub _ rfl, M⟩
/-! locks that are held -/
theorem JbD {q : Lk} {n : Nm} {k : Int} {b : Bool} (h : q.pl = (⟨n, k, b⟩ : Lk).pl) : q.name = n ∧ q.block = k := by
 have h9 : (q.name, q.block) = (n, k) := h
 grind
theorem jO {h : List Lk} {n : Nm} {k : Int} : jb h n k ↔ HasL h ⟨n, k, true⟩ := by
 constructor
 ·rintro ⟨q, hq, rfl, rfl, e⟩; exact ⟨q, hq, rfl, fun _ => e⟩
 ·rintro ⟨q, hq, e1, e2⟩; exact ⟨q, hq, (JbD e1).1, (JbD e1).2, e2 rfl⟩
def JcG (h : List Lk) (n : Nm) : Prop := ∃ x ∈ h, x.name = n
theorem y9 {h : List Lk} {n : Nm} : JcG h n ↔ ∃ k, HasL h ⟨n, k, false⟩ := by
 constructor
 ·rintro ⟨q, hq, rfl⟩; exact ⟨q.block, q, hq, rfl, fun e => by cases e⟩
 ·rintro ⟨k, q, hq, e1, -⟩; exact ⟨q, hq, (JbD e1).1⟩
theorem HasL.one {h : List Lk} {x : Lk} (hx : HasL h x) : JcG h x.name := by
 obtain ⟨q, hq, e, -⟩ := hx
 exact ⟨q, hq, congrArg Prod.fst e⟩
theorem HasL.filter {h : List Lk} {x : Lk} {n : Nm} (hx : HasL h x) (hn : x.name ≠ n) : HasL (h.filter fun q => !q.name.eqb n) x := by
 obtain ⟨q, hq, e, e2⟩ := hx
 refine ⟨q, List.mem_filter.2 ⟨hq, ?_⟩, e, e2⟩
 have h9 : q.name = x.name := congrArg Prod.fst e
 grind [Nm.eqb_iff]
theorem Ek {p : PlL} {v : Int} : ∀ (l : List Lk) (a : Int), v ≤ l.foldl (fun a x => if x.pl = p then max a x.mode else a) a → v ≤ a ∨ ∃ q ∈ l, q.pl = p ∧ v ≤ q.mode
 | [], a, h => .inl h
 | x :: l, a, h => by
   rcases Ek l _ h with h | ⟨q, hq, h⟩
   ·grind
   grind
theorem Jei {h : List Lk} {x : Lk} (hx : x.mode ≤ J1 h x.pl) : HasL h x := by
 rcases Ek h 0 hx with h1 | ⟨q, hq, h1, h2⟩
 ·grind [Lk.mode]
 ·refine ⟨q, hq, h1, fun e => ?_⟩
  grind [Lk.mode]
theorem Jih {h wt h' wt' : List Lk} {x : Lk} {act : Int} (R : ZZ h wt x h' wt' act) : (∀ y, HasL h y → HasL h' y) ∧ (act = 0 → HasL h' x) := by
 rcases R with ⟨h1, rfl, rfl⟩ | ⟨-, ⟨-, rfl, rfl, ⟨k, q, hq, hp, rfl⟩ | ⟨-, rfl⟩⟩ | ⟨-, -, rfl, rfl, rfl⟩ | ⟨-, -, rfl, rfl, -⟩⟩
 ·grind [YS, Jei]
 ·have hm := List.mem_of_getElem? (List.getElem?_set_self (a := q.strong) (List.getElem?_eq_some_iff.1 hq).1)
  refine ⟨fun y ⟨p, h1, h2, h3⟩ => ?_, fun _ => ⟨_, hm, hp, fun _ => rfl⟩⟩
  obtain ⟨j, hj⟩ := List.getElem?_of_mem h1
  by_cases e : k = j
  ·subst e
   rw [hq] at hj; obtain rfl := Option.some.inj hj
   exact ⟨_, hm, h2, fun _ => rfl⟩
  ·exact ⟨p, List.mem_of_getElem? ((List.getElem?_set_ne e).trans hj), h2, h3⟩
 ·exact ⟨fun y ⟨p, h1, h2⟩ => ⟨p, List.mem_append_left _ h1, h2⟩, fun _ => ⟨x, by simp, rfl, id⟩⟩
 ·grind
 grind
/-! live ones, by their names -/
theorem SortL.mem {l : List Lr} (hs : SortL l) {p q : Lr} (hp : p ∈ l) (hq : q ∈ l) (e : p.1.name = q.1.name) : p = q := by
 obtain ⟨i, hi⟩ := List.getElem?_of_mem hp
 obtain ⟨j, hj⟩ := List.getElem?_of_mem hq
 obtain rfl := hs.inj hi hj e
 grind
theorem SortL.in_set {l : List Lr} (hs : SortL l) {k : Nat} {q z p : Lr} (hq : l[k]? = some q) (hp : p ∈ l.set k z) : p = z ∨ (p ∈ l ∧ p.1.name ≠ q.1.name) := by
 obtain ⟨j, hj⟩ := List.getElem?_of_mem hp
 by_cases e : k = j
 ·grind
 ·rw [List.getElem?_set_ne e] at hj
  exact .inr ⟨List.mem_of_getElem? hj, fun h => e (hs.inj hq hj h.symm)⟩
theorem SortL.in_erase {l : List Lr} (hs : SortL l) {k : Nat} {q p : Lr} (hq : l[k]? = some q) (hp : p ∈ l.eraseIdx k) : p ∈ l ∧ p.1.name ≠ q.1.name := by
 obtain ⟨j, hj, h⟩ := List.mem_eraseIdx_iff_getElem?.1 hp
 exact ⟨List.mem_of_getElem? h, fun e => hj (hs.inj h hq e)⟩
/-! what is kept -/
structure LvI (h : List Lk) (lv : List Lr) : Prop where
 wr : ∀ q ∈ lv, ∀ x ∈ q.2, jb h q.1.name x.block
 tn : ∀ q ∈ lv, q.1.told = true → q.1.ans.name = q.1.name
 hl : ∀ q ∈ lv, q.1.told = true → q.1.ans.e = 0 → JcG h q.1.name
structure MidP (hm : List V8) (L : List Lr) (ps : Pl) (n : Nm) (Y : Px) : Prop where
 li : LvI Y.h Y.lv
 dw : ∀ p ∈ ps, ∀ x ∈ p.2, jb Y.h p.1.name x.block
 ms : ∀ p ∈ Y.ml, p.2 = [] ∧ (p.1.kind = 3 → p.1.e = 0 → ∀ q ∈ Y.lv, q.1.name = p.1.name → q.1.told = true ∧ q.1.ans = p.1 ∧ ∃ b, b < 32 ∧ Gy hm q.2 p.1.val b)
 un : ∀ q ∈ Y.lv, q.1.told = false → q.1.name ≠ n → q ∈ L
theorem JfL {self : Int} {hm : List V8} {q : Lr} (hl : hm.length = 32) (hb : 0 ≤ q.1.exec.block ∧ q.1.exec.block < 32) (he : (onL self hm q).1.ans.e = 0) : ∃ b, b < 32 ∧ Gy hm (onL self hm q).2 (onL self hm q).1.ans.val b := by
 refine ⟨q.1.exec.block.toNat, by omega, ?_⟩
 have e : ((q.1.exec.block.toNat : Nat) : Int) = q.1.exec.block := by omega
 unfold Gy
 rw [e]
 unfold onL at he ⊢
 split
 ·show J8 q.2 q.1.exec.block = some (onV hm q) ∨ (J8 q.2 q.1.exec.block = none ∧ hm[q.1.exec.block.toNat]? = some (onV hm q))
  unfold onV
  cases J8 q.2 q.1.exec.block with
  | some v => grind
  | none =>
    grind
 ·rename_i h1
  rw [if_neg h1] at he
  split
  ·rename_i h2
   rw [if_pos h2] at he; cases he
  ·exact .inl (Jf6 q.2 ⟨q.1.exec.block, q.1.exec.val⟩)
theorem JfM (self : Int) (hm : List V8) (q : Lr) : (onL self hm q).1.ans.name = q.1.name ∧ ∀ x ∈ (onL self hm q).2, x ∈ q.2 ∨ (q.1.exec.op = 1 ∧ x.block = q.1.exec.block) := by
 unfold onL; split
 ·exact ⟨rfl, fun x hx => .inl hx⟩
 ·split
  ·exact ⟨rfl, fun x hx => .inl hx⟩
  ·refine ⟨rfl, fun x hx => ?_⟩
   rcases JfT hx with rfl | h
   ·grind
   grind
section
variable {hm : List V8} {L : List Lr} {ps : Pl} {n : Nm} {Y : Px}
theorem MidP.on (H : MidP hm L ps n Y) (hs : SortL Y.lv) (hl : hm.length = 32) {self : Int} {k : Nat} {q : Lr} (hq : Y.lv[k]? = some q) (ht : q.1.told = false) (hb : 0 ≤ q.1.exec.block ∧ q.1.exec.block < 32) (hw : HasL Y.h (YW q)) : MidP hm L ps n (Y.on self hm k q) := by
 rw [Px.on_eq]
 obtain ⟨hn, htd⟩ := Gh self hm q
 obtain ⟨han, hxs⟩ := JfM self hm q
 have hqm := List.mem_of_getElem? hq
 refine ⟨⟨fun p hp x hx => ?_, fun p hp h => ?_, fun p hp h h2 => ?_⟩, H.dw, fun m hm' => ?_, fun p hp h h2 => ?_⟩
 ·rcases hs.in_set hq hp with rfl | ⟨hp, -⟩
  ·rw [hn]
   rcases hxs x hx with h | ⟨h, h2⟩
   ·exact H.li.wr q hqm x h
   ·rw [h2]
    obtain ⟨p, h3, h4, h5⟩ := hw
    exact ⟨p, h3, congrArg Prod.fst h4, congrArg Prod.snd h4, h5 (by grind)⟩
  ·exact H.li.wr p hp x hx
 ·rcases hs.in_set hq hp with rfl | ⟨hp, -⟩
  ·grind
  ·exact H.li.tn p hp h
 ·rcases hs.in_set hq hp with rfl | ⟨hp, -⟩
  ·rw [hn]; exact hw.one
  ·exact H.li.hl p hp h h2
 ·rcases List.mem_append.1 hm' with h | h
  ·obtain ⟨h1, h2⟩ := H.ms m h
   grind
  ·obtain rfl := List.mem_singleton.1 h
   refine ⟨rfl, fun hk he p hp hpn => ?_⟩
   have hpn : p.1.name = (onL self hm q).1.ans.name := hpn
   rcases hs.in_set hq hp with rfl | ⟨-, h⟩
   ·grind [JfL]
   grind
 ·rcases hs.in_set hq hp with rfl | ⟨hp, -⟩
  ·grind
  ·exact H.un p hp h h2
theorem MidP.say (H : MidP hm L ps n Y) (self : Int) {m : Msg} (h : m.kind = 3 → m.e ≠ 0) : MidP hm L ps n (Y.say self m) := by
 refine ⟨H.li, H.dw, fun p hp => ?_, H.un⟩
 rcases List.mem_append.1 hp with hp | hp
 ·exact H.ms p hp
 grind
theorem MidP.less (H : MidP hm L ps n Y) (k : Nat) : MidP hm L ps n (Y.less k) := by
 have hsub : ∀ q ∈ Y.lv.eraseIdx k, q ∈ Y.lv := fun q hq => List.mem_of_mem_eraseIdx hq
 exact ⟨⟨fun q hq => H.li.wr q (hsub q hq), fun q hq => H.li.tn q (hsub q hq), fun q hq => H.li.hl q (hsub q hq)⟩, H.dw, fun p hp => ⟨(H.ms p hp).1, fun h1 h2 q hq => (H.ms p hp).2 h1 h2 q (hsub q hq)⟩, fun q hq => H.un q (hsub q hq)⟩
def EM (wt : List Lk) (L : List Lr) : Prop := ∀ g ∈ wt, ∀ q ∈ L, q.1.told = false → q.1.name = g.name → YW q = g
theorem MidP.end_ {c o : Nat} (H : MidP hm L ps n Y) (G : PxGo c o Y) (hok : OkT Y.h Y.wt) (hl : hm.length = 32) (hw : EM Y.wt L) (h1 : ∀ q ∈ Y.lv, q.1.name ≠ n) (h2 : ∀ p ∈ ps, p.1.name ≠ n) (self e : Int) : MidP hm L ps n (Y.end_ self hm n e) := by
 obtain ⟨r1, r2, -, -⟩ := zX (Y.h.filter fun q => !q.name.eqb n) (Y.wt.filter fun q => !q.name.eqb n) 32
 have hh : ∀ x : Lk, HasL Y.h x → x.name ≠ n → HasL (Y.end0 n e).h x := fun x hx hn => r1 x (hx.filter hn)
 have H0 : MidP hm L ps n (Y.end0 n e) := by
  refine ⟨⟨fun q hq x hx => ?_, H.li.tn, fun q hq ht he => ?_⟩, fun p hp x hx => ?_, H.ms, H.un⟩
  ·exact jO.2 (hh _ (jO.1 (H.li.wr q hq x hx)) (h1 q hq))
  ·obtain ⟨k, hk⟩ := y9.1 (H.li.hl q hq ht he)
   exact y9.2 ⟨k, hh _ hk (h1 q hq)⟩
  ·exact jO.2 (hh _ (jO.1 (H.dw p hp x hx)) (h2 p hp))
 refine (Wh (I := fun Z => PxGo c (o + 1) Z ∧ Z.h = (Y.end0 n e).h ∧ MidP hm L ps n Z) ⟨G.end0 hok n e, rfl, H0⟩ (fun Z g k q ⟨h3, h4, h5⟩ hg hq hn ht hb => ?_) (pre := grK self hm (Vq Y.h Y.wt n) (Y.end0 n e)) (t := []) (List.append_nil _).symm).2.2
 have hqm := List.mem_of_getElem? hq
 obtain ⟨h6, h7, -⟩ := r2 g hg
 obtain ⟨h7, h8⟩ := List.mem_filter.1 h7
 have hgn : q.1.name ≠ n := by
  grind [Nm.eqb_iff]
 have hwq : YW q = g := hw g h7 q (h5.un q hqm ht hgn) ht hn
 exact ⟨h3.on self hm hq ht, by grind [Px.on_eq], h5.on h3.sort hl hq ht (h3.ex q hqm ht) (by rw [h4, hwq]; exact h6)⟩
end
theorem JeH (X : Px) (self : Int) (h : List V8) (n : Nm) (e : Int) : (X.end_ self h n e).el = X.el :=
 Wh (I := fun Z => Z.el = X.el) (X := X.end0 n e) (gone := Vq X.h X.wt n) rfl (fun Y g k q hY _ _ _ _ _ => by grind [Px.on_eq]) (pre := grK self h (Vq X.h X.wt n) (X.end0 n e)) (t := []) (List.append_nil _).symm
section
variable {hm : List V8} {L : List Lr} {ps : Pl} {Y X X' : Px} {C : PxC} {c o : Nat} {s s' : Sh}
theorem MidP.next {k : Nat} {q : Lr} (H : MidP hm L ps C.m.name Y) (G : PxGo c o Y) (hok : OkT Y.h Y.wt) (hl : hm.length = 32) (hw : EM Y.wt L) (hq : Y.lv[k]? = some q) (hqn : q.1.name = C.m.name) (hml : Y.ml = []) (hps : ∀ p ∈ ps, p.1.name ≠ C.m.name) (hb : 0 ≤ C.m.block ∧ C.m.block < 32) (hN : Dg C hm Y k q X') :
 MidP hm L ps C.m.name X' ∧ PxGo (c + 1) (o + 2) X' ∧ X'.el = Y.el := by
 obtain ⟨ea, ec, h', wt', act, hz, R, rfl⟩ := hN
 obtain ⟨hmono, hself⟩ := Jih R
 have hlen := Ja6 R
 have hk := (List.getElem?_eq_some_iff.1 hq).1
 have hqm := List.mem_of_getElem? hq
 have hQ : ∀ p ∈ Y.lv.set k (J5 q C.m ea ec), p = J5 q C.m ea ec ∨ (p ∈ Y.lv ∧ p.1.name ≠ q.1.name) := fun p hp => G.sort.in_set hq hp
 have hX : ∀ n k, jb Y.h n k → jb h' n k := fun n k hx => jO.2 (hmono _ (jO.1 hx))
 have G1 : PxGo (c + 1) (o + 1) (Y.setT k (J5 q C.m ea ec) h' wt') := G.setT (q' := J5 q C.m ea ec) hq rfl rfl hb hz (by have := G.tab; omega)
 have hq1 : (Y.setT k (J5 q C.m ea ec) h' wt').lv[k]? = some (J5 q C.m ea ec) := List.getElem?_set_self hk
 have H1 : MidP hm L ps C.m.name (Y.setT k (J5 q C.m ea ec) h' wt') := by
  refine ⟨⟨fun p hp x hx => ?_, fun p hp h => ?_, fun p hp h h2 => ?_⟩, fun p hp x hx => hX _ _ (H.dw p hp x hx), fun m hm' => ?_, fun p hp h h2 => ?_⟩
  ·rcases hQ p hp with rfl | ⟨hp, -⟩
   ·exact hX _ _ (H.li.wr q hqm x hx)
   ·exact hX _ _ (H.li.wr p hp x hx)
  ·rcases hQ p hp with rfl | ⟨hp, -⟩
   ·cases h
   ·exact H.li.tn p hp h
  ·rcases hQ p hp with rfl | ⟨hp, -⟩
   ·cases h
   ·obtain ⟨j, hj⟩ := y9.1 (H.li.hl p hp h h2)
    exact y9.2 ⟨j, hmono _ hj⟩
  ·have h9 : m ∈ Y.ml := hm'
   grind
  ·rcases hQ p hp with rfl | ⟨hp, -⟩
   ·exact absurd hqn h2
   ·exact H.un p hp h h2
 unfold Px.nextA
 split
 ·refine ⟨H1.on G1.sort hl hq1 rfl hb (hself o_), (G1.on C.self hm hq1 rfl).more (Nat.le_refl _) o_, ?_⟩
  rw [Px.on_eq]; rfl
 ·split
  ·obtain ⟨rfl, rfl⟩ := Ja5 R o_
   have G2 := (G1.ans C.self hq1 rfl 120 zV8).less k
   have hE : ∀ p ∈ (((Y.setT k (J5 q C.m ea ec) Y.h Y.wt).ans C.self k (J5 q C.m ea ec) 120 zV8).less k).lv, p ∈ Y.lv ∧ p.1.name ≠ C.m.name := fun p hp => by
    have h9 : p ∈ ((Y.lv.set k (J5 q C.m ea ec)).set k (zF C.self (J5 q C.m ea ec) 120 zV8)).eraseIdx k := hp
    rw [List.set_set] at h9
    obtain ⟨h1, h2⟩ := (G.sort.set (q' := zF C.self (J5 q C.m ea ec) 120 zV8) hq rfl).in_erase (List.getElem?_set_self hk) h9
    rcases G.sort.in_set hq h1 with rfl | ⟨h1, -⟩
    ·grind
    ·exact ⟨h1, fun e => h2 (e.trans hqn.symm)⟩
   have H2 : MidP hm L ps C.m.name (((Y.setT k (J5 q C.m ea ec) Y.h Y.wt).ans C.self k (J5 q C.m ea ec) 120 zV8).less k) := by
    refine ⟨⟨fun p hp => H.li.wr p (hE p hp).1, fun p hp => H.li.tn p (hE p hp).1, fun p hp => H.li.hl p (hE p hp).1⟩, H.dw, fun m hm' => ?_, fun p hp => H.un p (hE p hp).1⟩
    have h9 : m ∈ Y.ml ++ [(vy C.self q.1.name C.m.n 120 zV8, [])] := hm'
    grind
   rw [show (J5 q C.m ea ec).1.name = C.m.name from hqn]
   exact ⟨H2.end_ G2 hok hl hw (fun p hp => (hE p hp).2) hps C.self 120, (G2.end_ hok C.self hm _ 120).more (Nat.le_refl _) o_, JeH _ _ _ _ _⟩
  ·exact ⟨H1, G1.more (Nat.le_refl _) o_, rfl⟩
theorem MidP.drop {k : Nat} {q : Lr} (H : MidP hm L ps C.m.name Y) (G : PxGo c o Y) (hok : OkT Y.h Y.wt) (hl : hm.length = 32) (hw : EM Y.wt L) (hq : Y.lv[k]? = some q) (hqn : q.1.name = C.m.name) (hps : ∀ p ∈ ps, p.1.name ≠ C.m.name) (e : Int) :
 MidP hm L ps C.m.name ((Y.less k).end_ C.self hm q.1.name e) ∧ PxGo c (o + 1) ((Y.less k).end_ C.self hm q.1.name e) ∧ ((Y.less k).end_ C.self hm q.1.name e).el = Y.el := by
 rw [hqn]
 refine ⟨(H.less k).end_ (G.less k) hok hl hw (fun p hp => ?_) hps C.self e, (G.less k).end_ hok C.self hm _ e, JeH _ _ _ _ _⟩
 rw [← hqn]; exact (G.sort.in_erase hq hp).2
theorem PxGo.told (H : PxGo c o X) (m : Msg) : PxGo (c + 1) o (X.told m) := by
 have h2 := H.ml
 exact ⟨H.sort, H.lv, by show (X.ml ++ [_]).length + unL X.lv ≤ c + 1; grind, H.el, H.ov, H.tab, H.wr, H.ex, H.zs⟩
theorem MidP.exec (H : MidP hm X.lv ps C.m.name X) (G : PxGo c o X) (hok : OkT X.h X.wt) (hl : hm.length = 32) (hw : EM X.wt X.lv) (hml : X.ml = []) (hdb : ∀ q ∈ X.lv, Vg ps q.1.name = false) (hb : 0 ≤ C.m.block ∧ C.m.block < 32) (hE : U1 C hm ps X X') :
 (MidP hm X.lv ps C.m.name X' ∨ ∃ q ∈ X.lv, q.1.told = true ∧ X' = X.told q.1.ans) ∧ PxGo (c + 2) (o + 2) X' ∧ X'.el = X.el := by
 rcases hE with ⟨rfl, -⟩ | ⟨rfl, -⟩ | ⟨k, hF, hlt, hd, hN⟩ | ⟨k, q, hq, hqn, ⟨ht, rfl⟩ | rfl | ⟨ht, hN⟩⟩
 ·exact ⟨.inl H, G.more o_ o_, rfl⟩
 ·exact ⟨.inl (H.say _ fun _ => (by decide : (121 : Int) ≠ 0)), (G.say _ _).more o_ o_, rfl⟩
 ·have hkl := hF.1
  have hm' : ∀ p ∈ (X.ins k C.m.name).lv, p = zLr C.m.name ∨ p ∈ X.lv := fun p hp => by
   rcases List.mem_append.1 hp with h | h
   ·grind
   grind
  have H1 : MidP hm X.lv ps C.m.name (X.ins k C.m.name) := by
   refine ⟨⟨fun p hp x hx => ?_, fun p hp h => ?_, fun p hp h h2 => ?_⟩, H.dw, fun m hm9 => ?_, fun p hp h h2 => ?_⟩
   ·rcases hm' p hp with rfl | hp
    ·cases hx
    ·exact H.li.wr p hp x hx
   ·rcases hm' p hp with rfl | hp
    ·cases h
    ·exact H.li.tn p hp h
   ·rcases hm' p hp with rfl | hp
    ·cases h
    ·exact H.li.hl p hp h h2
   ·have h9 : m ∈ X.ml := hm9
    grind
   ·rcases hm' p hp with rfl | hp
    ·exact absurd rfl h2
    omega
  have hq : (X.ins k C.m.name).lv[k]? = some (zLr C.m.name) := by
   show (X.lv.take k ++ _ :: X.lv.drop k)[k]? = _
   grind
  obtain ⟨h1, h2, h3⟩ := H1.next (G.ins hF hlt) hok hl hw hq rfl hml (jD hd) hb hN
  exact ⟨.inl h1, h2.more o_ o_, h3⟩
 ·exact ⟨.inr ⟨q, List.mem_of_getElem? hq, ht, rfl⟩, (G.told q.1.ans).more o_ o_, rfl⟩
 ·obtain ⟨h1, h2, h3⟩ := H.drop G hok hl hw hq hqn (by rw [← hqn]; exact jD (hdb q (List.mem_of_getElem? hq))) 121
  exact ⟨.inl (h1.say _ fun _ => (by decide : (121 : Int) ≠ 0)), (h2.say _ _).more o_ o_, h3⟩
 ·obtain ⟨h1, h2, h3⟩ := H.next G hok hl hw hq hqn hml (by rw [← hqn]; exact jD (hdb q (List.mem_of_getElem? hq))) hb hN
  exact ⟨.inl h1, h2.more o_ o_, h3⟩
end
def PickW {α : Type} (f : α → Nm) (l : List (α × List Wr)) (n : Nm) (ws : List Wr) : Prop := (ws = [] ∧ ∀ p ∈ l, f p.1 ≠ n) ∨ ∃ p ∈ l, f p.1 = n ∧ ws = p.2
structure StOk (X X' : Px) (m : Msg) (s s' : Sh) : Prop where
 li : LvI X'.h X'.lv
 dw : ∀ p ∈ s'.ps, ∀ x ∈ p.2, jb X'.h p.1.name x.block
 nd : (s'.ps.map fun p => p.1.name).Nodup
 rd : JgF X' X X'.ml s'.h
 f1 : m.kind = 6 → m.yes = true → m.your ≠ 0 → ∀ ws, PickW Pr.name s.ps m.name ws → s'.h = onF s.h ws
 f2 : m.kind = 9 → X'.el.length = 1 → ∀ ws, PickW Lv.name X.lv m.name ws → s'.h = onF s.h ws
 f3 : ¬ (m.kind = 6 ∧ m.yes = true ∧ m.your ≠ 0) → ¬ (m.kind = 9 ∧ X'.el.length = 1) → s'.h = s.h
theorem MidP.rd {hm : List V8} {L : List Lr} {ps : Pl} {n : Nm} {Y : Px} (H : MidP hm L ps n Y) (X : Px) : JgF Y X Y.ml hm := fun p hp => by
 obtain ⟨h1, h2⟩ := H.ms p hp
 refine ⟨h1, fun hk he q hq hn => ?_⟩
 obtain ⟨h3, h4, h5⟩ := h2 hk he q hq hn
 have h6 := H.li.hl q hq h3 (by grind)
 rw [hn] at h6
 exact ⟨h6, h4, .inl h5⟩
theorem MidP.ps {hm : List V8} {L : List Lr} {ps ps' : Pl} {n : Nm} {Y : Px} (H : MidP hm L ps n Y) (h : ∀ p ∈ ps', ∀ x ∈ p.2, jb Y.h p.1.name x.block) : MidP hm L ps' n Y := ⟨H.li, h, H.ms, H.un⟩
theorem JhQ {α : Type} {l : List α} (h : l.Nodup) {i j : Nat} {x : α} (hi : l[i]? = some x) (hj : l[j]? = some x) : i = j := by
 grind [List.pairwise_iff_getElem]
theorem Jd5 {ps : Pl} (h : (ps.map fun p => p.1.name).Nodup) {i j : Nat} {p q : Pr × List Wr} (hp : ps[i]? = some p) (hq : ps[j]? = some q) (e : p.1.name = q.1.name) : i = j :=
 JhQ h (x := q.1.name) (by grind) (by grind)
theorem JhP {ps : Pl} (h : (ps.map fun p => p.1.name).Nodup) {k : Nat} {q p : Pr × List Wr} (hq : ps[k]? = some q) (hp : p ∈ ps) (e : p.1.name = q.1.name) : p = q := by
 grind [List.getElem?_of_mem, Jd5]
theorem Jd4 {ps : Pl} (h : (ps.map fun p => p.1.name).Nodup) {k : Nat} {q p : Pr × List Wr} (hq : ps[k]? = some q) (hp : p ∈ ps.eraseIdx k) : p ∈ ps ∧ p.1.name ≠ q.1.name := by
 grind [List.mem_eraseIdx_iff_getElem?, Jd5]
theorem JeK {ps : Pl} {q : Pr × List Wr} {n : Nm} (hq : q ∈ ps) (h : q.1.name = n) : Vg ps n = true := by
 grind [Vg, Nm.eqb_iff]
theorem PxGo.ended {c o : Nat} {X : Px} (H : PxGo c o X) (h : X.el = []) (n : Nm) : PxGo c o (X.ended n) :=
 ⟨H.sort, H.lv, H.ml, by show (X.el ++ [_]).length ≤ 10; grind, H.ov, H.tab, H.wr, H.ex, H.zs⟩
theorem Jhv {C : PxC} {X X' : Px} {s s' : Sh} {lv : List Lr} {o : Nat} (hchk : ChkP X s.ps) (hnz : lv.map Lr.nz = X.lv.map Lr.nz) (hz : ∀ q ∈ lv, ZSl q.1.ea q.1.ec) (hs : SortL lv) (hl : s.h.length = 32) (hli : LvI X.h X.lv) (hdw : ∀ p ∈ s.ps, ∀ x ∈ p.2, jb X.h p.1.name x.block) (hnd : (s.ps.map fun p => p.1.name).Nodup)
 (hov : X.ov.length ≤ o) (hht : X.h.length + X.wt.length ≤ o) (hb : C.m.kind = 2 → 0 ≤ C.m.block ∧ C.m.block < 32) (hR : yn C (X.start lv) X' s s') : StOk X X' C.m s s' ∧ PxGo 70 (o + 2) X' := by
 have hlk : LiveOk s.ps lv := hchk.live.nz hnz
 have hsX : SortL X.lv := Xe hchk.live
 have G : PxGo 64 o (X.start lv) := DC hlk hs hz hov hht
 have hold : ∀ q ∈ lv, ∃ q0 ∈ X.lv, q.1.name = q0.1.name ∧ q.1.n = q0.1.n ∧ q.1.told = q0.1.told ∧ q.1.ans = q0.1.ans ∧ q.1.exec = q0.1.exec ∧ q.2 = q0.2 := fun q hq => by
  grind [List.getElem?_of_mem, D6, XL]
 have hdb : ∀ q ∈ lv, Vg s.ps q.1.name = false := fun q hq => by
  obtain ⟨i, hi⟩ := List.getElem?_of_mem hq
  exact (hlk.2 i q hi).doubt
 have hw : EM X.wt lv := fun g hg q hq ht hn => by
  obtain ⟨k, q1, hk, hn1, ht1, hw1⟩ := hchk.wait.w g hg
  obtain ⟨q0, h0, e1, e2, e3, e4, e5, e6⟩ := hold q hq
  obtain rfl := hsX.mem h0 (List.mem_of_getElem? hk) (e1.symm.trans (hn.trans hn1.symm))
  grind
 have H : ∀ hm, MidP hm lv s.ps C.m.name (X.start lv) := fun hm => by
  refine ⟨⟨fun q hq x hx => ?_, fun q hq ht => ?_, fun q hq ht he => ?_⟩, hdw, fun p hp => (by cases hp), fun q hq _ _ => hq⟩
  ·obtain ⟨q0, h0, e1, e2, e3, e4, e5, e6⟩ := hold q hq
   rw [e1]; exact hli.wr q0 h0 x (by grind)
  ·obtain ⟨q0, h0, e1, e2, e3, e4, e5, e6⟩ := hold q hq
   rw [e1, e4]; exact hli.tn q0 h0 (by grind)
  ·obtain ⟨q0, h0, e1, e2, e3, e4, e5, e6⟩ := hold q hq
   rw [e1]; exact hli.hl q0 h0 (by grind) (by grind)
 have hlf : ∀ ws, (onF s.h ws).length = 32 := fun ws => by grind [Ve]
 have hno : ∀ {k : Nat} {q : Lr}, lv[k]? = some q → q.1.name = C.m.name → ∀ p ∈ s.ps, p.1.name ≠ C.m.name := fun hq hqn => by rw [← hqn]; exact jD (hdb _ (List.mem_of_getElem? hq))
 rcases hR with ⟨hy, rfl, rfl⟩ | ⟨hy, ⟨hk, hE, rfl⟩ | ⟨hk, hE, hh⟩ | ⟨hk, hE⟩ | ⟨hk, hE⟩⟩
 ·have H1 := (H s'.h).say C.self (m := XK) fun h => (by cases h)
  exact ⟨⟨H1.li, H1.dw, hnd, H1.rd X, fun _ _ h => absurd hy h, fun _ h => (by cases h), fun _ _ => rfl⟩, (G.say _ _).more o_ o_⟩
 ·obtain ⟨h1, h2, h3⟩ := (H s'.h).exec (X := X.start lv) G hchk.tab hl hw rfl hdb (hb hk) hE
  refine ⟨?_, h2.more o_ o_⟩
  rcases h1 with h1 | ⟨q, hq, ht, rfl⟩
  ·exact ⟨h1.li, h1.dw, hnd, h1.rd X, fun h => o_, fun h => o_, fun _ _ => rfl⟩
  ·refine ⟨(H s'.h).li, hdw, hnd, fun p hp => ?_, fun h => o_, fun h => o_, fun _ _ => rfl⟩
   obtain rfl := List.mem_singleton.1 (show p ∈ [(q.1.ans, [])] from hp)
   refine ⟨rfl, fun hk he q1 hq1 hn => ?_⟩
   have ha := (H s'.h).li.tn q hq ht
   have hn : q1.1.name = q.1.ans.name := hn
   obtain rfl := hs.mem hq1 hq (hn.trans ha)
   obtain ⟨q0, h0, e1, e2, e3, e4, e5, e6⟩ := hold q1 hq1
   have h9 := (H s'.h).li.hl q1 hq ht he
   exact ⟨by show ∃ x ∈ X.h, x.name = q1.1.ans.name; rw [ha]; exact h9, rfl, .inr (.inr ⟨q0, h0, e1.symm.trans ha.symm, e4.symm⟩)⟩
 ·have hf6 : ∀ {P : Prop}, C.m.kind = 6 → P := fun {P} h => absurd h o_
  have hf9 : ∀ {P : Prop}, C.m.kind = 9 → P := fun {P} h => absurd h o_
  rcases hE with ⟨⟨y, rfl, hps⟩, -⟩ | ⟨k, q, hq, hqn, ⟨e, rfl, hps, -⟩ | ⟨rfl, hps⟩⟩
  ·have H1 := (H s'.h).say C.self (m := Yx 5 C.m.name 0 0 y) fun h => (by cases h)
   exact ⟨⟨H1.li, by rw [hps]; exact H1.dw, by grind, H1.rd X, hf6, hf9, fun _ _ => hh⟩, (G.say _ _).more o_ o_⟩
  ·obtain ⟨h1, h2, h3⟩ := (H s.h).drop G hchk.tab hl hw hq hqn (hno hq hqn) e
   have H1 := h1.say C.self (m := Yx 5 C.m.name 0 0 false) fun h => (by cases h)
   exact ⟨⟨H1.li, by rw [hps]; exact H1.dw, by grind, by rw [hh]; exact H1.rd X, hf6, hf9, fun _ _ => hh⟩, (h2.say _ _).more o_ o_⟩
  ·have H1 := ((H s'.h).less k).say C.self (m := Yx 5 C.m.name 0 0 true) fun h => (by cases h)
   refine ⟨⟨H1.li, ?_, ?_, H1.rd X, hf6, hf9, fun _ _ => hh⟩, ((G.less k).say _ _).more o_ o_⟩
   ·rw [hps]
    intro p hp x hx
    rcases List.mem_append.1 hp with hp | hp
    ·exact hdw p hp x hx
    ·obtain rfl := List.mem_singleton.1 hp
     have h9 := (H s'.h).li.wr q (List.mem_of_getElem? hq) x hx
     rw [hqn] at h9; exact h9
   ·rw [hps, List.map_append, List.nodup_append]
    refine ⟨hnd, by simp, fun a ha b hb => ?_⟩
    obtain ⟨p, hp, rfl⟩ := List.mem_map.1 ha
    obtain rfl := List.mem_singleton.1 hb
    exact hno hq hqn p hp
 ·have hf : ∀ {Q : Prop}, C.m.kind = 9 → Q := fun {Q} h => absurd h o_
  rcases hE with ⟨hps, hh, hnn, hX⟩ | ⟨k, q, hq, hqn, hps, hX⟩
  ·have hf1 : C.m.kind = 6 → C.m.yes = true → C.m.your ≠ 0 → ∀ ws, PickW Pr.name s.ps C.m.name ws → s'.h = onF s.h ws := fun _ h9 _ ws hp => by
    rcases hp with ⟨rfl, -⟩ | ⟨p, hp, hpn, -⟩
    ·exact hh
    ·exact absurd hpn (hnn h9 p hp)
   have fin : ∀ Z, MidP s.h lv s.ps C.m.name Z → PxGo 66 (o + 2) Z → StOk X Z C.m s s' ∧ PxGo 70 (o + 2) Z := fun Z h1 h2 => ⟨⟨h1.li, by rw [hps]; exact h1.dw, by rw [hps]; exact hnd, by rw [hh]; exact h1.rd X, hf1, hf, fun _ _ => hh⟩, h2.more o_ (Nat.le_refl _)⟩
   rcases hX with rfl | rfl | ⟨k, q, hq, hqn, rfl⟩
   ·exact fin _ (H s.h) (G.more o_ o_)
   ·exact fin _ ((H s.h).say C.self (m := Qv C) fun h => (by cases h)) ((G.say _ _).more o_ o_)
   ·obtain ⟨h1, h2, h3⟩ := (H s.h).drop G hchk.tab hl hw hq hqn (hno hq hqn) 121
    exact fin _ h1 (h2.more o_ o_)
  ·have hqm := List.mem_of_getElem? hq
   have hne : ∀ p ∈ s.ps.eraseIdx k, p ∈ s.ps ∧ p.1.name ≠ C.m.name := fun p hp => by
    rw [← hqn]; exact Jd4 hnd hq hp
   have hnl : ∀ p ∈ lv, p.1.name ≠ C.m.name := fun p hp e => by
    have h9 := hdb p hp
    rw [e, JeK hqm hqn] at h9; cases h9
   have hg : ∀ (hm : List V8) (e : Int), hm.length = 32 → MidP hm lv (s.ps.eraseIdx k) C.m.name ((X.start lv).end_ C.self hm C.m.name e) ∧ PxGo 64 (o + 1) ((X.start lv).end_ C.self hm C.m.name e) := fun hm e hl' =>
    ⟨((H hm).ps fun p hp => hdw p (hne p hp).1).end_ G hchk.tab hl' hw hnl (fun p hp => (hne p hp).2) C.self e, G.end_ hchk.tab C.self hm _ e⟩
   have hnd' : (s'.ps.map fun p => p.1.name).Nodup := by
    rw [hps]; exact hnd.sublist ((List.eraseIdx_sublist ..).map _)
   rcases hX with ⟨hy2, hh, rfl⟩ | ⟨hy2, hh, rfl⟩
   ·obtain ⟨h1, h2⟩ := hg s'.h 0 (by rw [hh]; exact hlf _)
    have H1 := h1.say C.self (m := Qv C) fun h => (by cases h)
    refine ⟨⟨H1.li, by rw [hps]; exact H1.dw, hnd', H1.rd X, fun _ _ _ ws hp => ?_, hf, fun h _ => absurd ⟨hk, hy2, hy⟩ h⟩, (h2.say _ _).more o_ o_⟩
    rcases hp with ⟨-, h⟩ | ⟨p, hp, hpn, rfl⟩
    ·exact absurd hqn (h q hqm)
    ·rw [JhP hnd hq hp (hpn.trans hqn.symm)]; exact hh
   ·obtain ⟨h1, h2⟩ := hg s'.h 121 (by rw [hh]; exact hl)
    exact ⟨⟨h1.li, by rw [hps]; exact h1.dw, hnd', h1.rd X, fun _ h => (by rw [hy2] at h; cases h), hf, fun _ _ => hh⟩, h2.more o_ o_⟩
 ·have hf : ∀ {Q : Prop}, C.m.kind = 6 → Q := fun {Q} h => absurd h o_
  obtain ⟨hps, ⟨hh, e, rfl | ⟨k, q, e', hq, hqn, rfl⟩⟩ | ⟨k, q, hq, hqn, hh, rfl⟩⟩ := hE
  ·have H1 := (H s.h).say C.self (m := zb C e) fun h => (by cases h)
   exact ⟨⟨H1.li, by rw [hps]; exact H1.dw, by rw [hps]; exact hnd, by rw [hh]; exact H1.rd X, hf, fun _ h => (by cases h), fun _ _ => hh⟩, (G.say _ _).more o_ o_⟩
  ·obtain ⟨h1, h2, h3⟩ := (H s.h).drop G hchk.tab hl hw hq hqn (hno hq hqn) e'
   have H1 := h1.say C.self (m := zb C e) fun h => (by cases h)
   refine ⟨⟨H1.li, by rw [hps]; exact H1.dw, by rw [hps]; exact hnd, by rw [hh]; exact H1.rd X, hf, fun _ h => ?_, fun _ _ => hh⟩, (h2.say _ _).more o_ o_⟩
   have h9 : (((X.start lv).less k).end_ C.self s.h q.1.name e').el.length = 1 := h
   rw [h3] at h9; cases h9
  ·obtain ⟨h1, h2, h3⟩ := (H s'.h).drop G hchk.tab (by rw [hh]; exact hlf _) hw hq hqn (hno hq hqn) 0
   have h1' : MidP s'.h lv s.ps C.m.name ((((X.start lv).less k).end_ C.self s'.h q.1.name 0).ended C.m.name) := ⟨h1.li, h1.dw, h1.ms, h1.un⟩
   have H1 := h1'.say C.self (m := zb C 0) fun h => (by cases h)
   refine ⟨⟨H1.li, by rw [hps]; exact H1.dw, by rw [hps]; exact hnd, H1.rd X, hf, fun _ _ ws hp => ?_, fun _ h => absurd ⟨hk, ?_⟩ h⟩, ((h2.ended h3 _).say _ _).more o_ o_⟩
   ·obtain ⟨q0, h0, e1, e2, e3, e4, e5, e6⟩ := hold q (List.mem_of_getElem? hq)
    rcases hp with ⟨-, h⟩ | ⟨p, hp, hpn, rfl⟩
    ·exact absurd (e1.symm.trans hqn) (h q0 h0)
    ·rw [hsX.mem hp h0 (hpn.trans (hqn.symm.trans e1)), ← e6]; exact hh
   ·show (((((X.start lv).less k).end_ C.self s'.h q.1.name 0).el) ++ [_]).length = 1
    rw [h3]; rfl
section
variable {lv : List Lr} {ps : Pl} {X' : Px} {C : PxC} {s s' : Sh}
abbrev n5 : Nm := ⟨5, 1, 1⟩
abbrev v9 : V8 := ⟨9, 0, 0, 0, 0, 0, 0, 0⟩
abbrev m1 : Msg := ⟨2, 0, 1, 1, 1, n5, 1, 1, 3, v9, 0, false, 0, 0⟩
abbrev m3 : Msg := ⟨6, 0, 1, 1, 1, n5, 0, 0, 0, ⟨0, 0, 0, 0, 0, 0, 0, 0⟩, 0, true, 0, 0⟩
abbrev l5 : Lk := ⟨n5, 3, true⟩
abbrev x9s : List Wr := [⟨3, v9⟩]
def X0 : Px := ⟨[], [], [], [], [], []⟩
def X1 : Px := ⟨[l5], [], [((⟨n5, 1, true, vy 1 n5 1 0 v9, vX, none, 0⟩ : Lv), x9s)], [], [(vy 1 n5 1 0 v9, [])], []⟩
def X2 : Px := ⟨[l5], [], [], [], [({ Yx 5 n5 0 0 true with frm := 1 }, [])], []⟩
theorem Jkc (h : ps = []) : ChkP X0 ps := by
 subst h
 exact ⟨JhN, ⟨Nat.zero_le _, fun i q h => (by cases h)⟩, fun o h => (by cases h), ⟨fun x h => (by cases h), fun q h => (by cases h)⟩, fun x h => (by cases h), fun p h => (by cases h)⟩
theorem Jgv (h : ps = []) : ChkP X1 ps := by
 subst h
 refine ⟨JaM rfl, ⟨by decide, fun i q h => ?_⟩, fun o h => (by cases h), ⟨fun x h => (by cases h), fun q h ht => ?_⟩, fun x h => ?_, fun p h => (by cases h)⟩
 ·have hi : i = 0 := by have h9 : i < 1 := (List.getElem?_eq_some_iff.1 h).1; omega
  subst hi
  obtain rfl := Option.some.inj h
  exact ⟨rfl, by decide, rfl, rfl, fun h => absurd h d_, fun h => (by cases h)⟩
 ·obtain rfl := List.mem_singleton.1 h; cases ht
 ·obtain rfl := List.mem_singleton.1 h; exact .inl ⟨_, .head _, rfl⟩
theorem Jkb (h : ps = [(⟨n5, 0, 0⟩, x9s)]) : ChkP X2 ps := by
 subst h
 refine ⟨JaM rfl, ⟨by decide, fun i q h => (by cases h)⟩, fun o h => (by cases h), ⟨fun x h => (by cases h), fun q h => (by cases h)⟩, fun x h => ?_, fun p h x hx => ?_⟩
 ·obtain rfl := List.mem_singleton.1 h; exact .inr rfl
 ·obtain rfl := List.mem_singleton.1 h
  obtain rfl := List.mem_singleton.1 hx; rfl
theorem wk1 (hm : C.m = m1) (hself : C.self = 1) (hps : s.ps = []) (hlv : lv.map Lr.nz = []) (hR : yn C (X0.start lv) X' s s') : X' = X1 ∧ s' = s := by
 obtain rfl : lv = [] := List.map_eq_nil_iff.1 hlv
 rcases hR with ⟨hy, -⟩ | ⟨-, ⟨-, hE, rfl⟩ | ⟨hk, -⟩ | ⟨hk, -⟩ | ⟨hk, -⟩⟩
 ·grind
 ·refine ⟨?_, rfl⟩
  rcases hE with ⟨-, q, hq, -⟩ | ⟨-, h | h | h | h⟩ | ⟨k, hF, -, -, ea, ec, h', wt', act, -, R, rfl⟩ | ⟨k, q, hq, -⟩
  ·cases hq
  ·cases h
  ·rw [hps] at h; cases h
  ·grind
  ·exact absurd h d_
  ·have hk : k = 0 := Nat.le_zero.1 hF.1
   subst hk
   obtain ⟨rfl, rfl, rfl⟩ := JeX R
   rw [hm, hself]
   unfold Px.nextA
   rw [if_pos rfl, Px.on_eq]
   rfl
  ·cases hq
 ·grind
 ·grind
 grind
theorem wk2 (hm : C.m = QE 4 5) (hself : C.self = 1) (hps : s.ps = []) (hlv : lv.map Lr.nz = X1.lv.map Lr.nz) (hR : yn C (X1.start lv) X' s s') : X' = X2 ∧ s'.ps = [(⟨n5, 0, 0⟩, x9s)] ∧ s'.h = s.h := by
 obtain ⟨q0, rfl⟩ : ∃ q0, lv = [q0] := List.length_eq_one_iff.1 (by
  have h9 := congrArg List.length hlv
  rw [List.length_map, List.length_map] at h9
  exact h9)
 have h0 : q0.nz = Lr.nz ((⟨n5, 1, true, vy 1 n5 1 0 v9, vX, none, 0⟩ : Lv), x9s) := List.head_eq_of_cons_eq hlv
 obtain ⟨e1, e2, e3, e4, e5, e6⟩ := XL h0
 rcases hR with ⟨hy, -⟩ | ⟨-, ⟨hk, -⟩ | ⟨-, hE, hh⟩ | ⟨hk, -⟩ | ⟨hk, -⟩⟩
 ·grind
 ·grind
 ·unfold U0 at hE
  rw [hm, hself, hps] at hE
  rcases hE with ⟨-, h | h | h⟩ | ⟨k, q, hq, -, ⟨e, -, -, h | h⟩ | ⟨rfl, hp⟩⟩
  ·cases h
  ·cases h
  ·exact absurd e1.symm (h q0 (.head _))
  ·have hk : k = 0 := by have h9 : k < 1 := (List.getElem?_eq_some_iff.1 hq).1; omega
   subst hk
   obtain rfl := Option.some.inj hq
   grind
  ·have hk : k = 0 := by have h9 : k < 1 := (List.getElem?_eq_some_iff.1 hq).1; omega
   subst hk
   obtain rfl := Option.some.inj hq
   rw [← e6] at h
   have h9 := h ⟨rfl, rfl, by rw [hps]; rfl⟩
   exact absurd h9 d_
  ·have hk : k = 0 := by have h9 : k < 1 := (List.getElem?_eq_some_iff.1 hq).1; omega
   subst hk
   obtain rfl := Option.some.inj hq
   rw [← e6] at hp
   exact ⟨rfl, hp, hh⟩
 ·grind
 grind
theorem K8 (h : List Lk) : ∀ k, Vk h [] k = (h, [])
 | 0 => by rw [Vk]
 | k + 1 => by rw [Vk, K8 h k]; rfl
theorem wk3 (hm : C.m = m3) (hself : C.self = 1) (hps : s.ps = [(⟨n5, 0, 0⟩, x9s)]) (hlv : lv.map Lr.nz = []) (hR : yn C (X2.start lv) X' s s') : X'.h = [] ∧ X'.ml = [({ Yx 7 n5 0 0 false with frm := 1 }, [])] ∧ s'.h = onF s.h x9s := by
 obtain rfl : lv = [] := List.map_eq_nil_iff.1 hlv
 rcases hR with ⟨hy, -⟩ | ⟨-, ⟨hk, -⟩ | ⟨hk, -⟩ | ⟨-, hE⟩ | ⟨hk, -⟩⟩
 ·grind
 ·grind
 ·grind
 ·unfold JcJ at hE
  rw [hm, hself, hps] at hE
  rcases hE with ⟨-, -, h, -⟩ | ⟨k, q, hq, -, -, ⟨-, hh, rfl⟩ | ⟨h, -⟩⟩
  ·simp_all
  ·have hk : k = 0 := by grind
   subst hk
   obtain rfl := Option.some.inj hq
   have hg : Vq (X2.start []).h (X2.start []).wt n5 = [] := by unfold Vq; rw [show ((X2.start []).wt.filter fun q => !q.name.eqb n5) = [] from rfl, K8]
   have hh' : ((X2.start []).end0 n5 0).h = [] := by
    show (Vk _ ((X2.start []).wt.filter fun q => !q.name.eqb n5) 32).1 = []
    rw [show ((X2.start []).wt.filter fun q => !q.name.eqb n5) = [] from rfl, K8]; rfl
   have he : (X2.start []).end_ 1 s'.h n5 0 = (X2.start []).end0 n5 0 := by unfold Px.end_; rw [hg]; rfl
   rw [he]
   exact ⟨hh', by show [(({ Yx 7 C.m.name 0 0 false with frm := 1 } : Msg), ([] : List Wr))] = _; rw [hm], hh⟩
  grind
 grind
end
end Go.Proofs.YtocppoflhllelaaGreat
