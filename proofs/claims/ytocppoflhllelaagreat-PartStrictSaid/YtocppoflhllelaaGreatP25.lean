/-
  What PartStrict rests on, part 25.
-/
import Derived.Test.YtocppoflhllelaaGreatP24
namespace Go.Proofs.YtocppoflhllelaaGreat
open Go.RowKit Go.Sort
def Lk.strong (x : Lk) : Lk := { x with excl := true }
theorem GD {l : List Lk} {i : Nat} {x : Lk} (hx : l[i]? = some x) : Jt (Jg l) (i * 5 + 4) [.bool true] = Jg (l.set i x.strong) := by
 have hi := (List.getElem?_eq_some_iff.1 hx).1
 have h2 : (l.set i x.strong)[i]? = some x.strong := by grind
 rw [yM h2, List.take_set_of_le (Nat.le_refl _), List.drop_set_of_lt o_, yM hx]
 have hA : (Jg (l.take i) ++ x.cellsL.take 4).length = i * 5 + 4 := by
  grind [J3]
 have h3 : Jg (l.take i) ++ (x.cellsL ++ Jg (l.drop (i + 1))) = (Jg (l.take i) ++ x.cellsL.take 4) ++ ([.bool x.excl] ++ Jg (l.drop (i + 1))) := by
  grind
 have h4 : Jg (l.take i) ++ (x.strong.cellsL ++ Jg (l.drop (i + 1))) = (Jg (l.take i) ++ x.cellsL.take 4) ++ ([.bool true] ++ Jg (l.drop (i + 1))) := by
  rw [List.append_assoc]; rfl
 grind [jy]
theorem JiL (x : Lk) (l : List Lk) : (nf x l).length ≤ l.length := by grind [nf]
theorem WA (h wt : List Lk) (x : Lk) (up : Bool) : (agR h wt x up).length ≤ h.length + wt.length := by
 grind [agR, JiL]
def VK (h wt : List Lk) (x : Lk) : List Nm := agR h wt x (J1 h x.pl != 0)
def ToP (h wt : List Lk) (x : Lk) (to : Nat) : Prop :=
 (to = wt.length ∧ ((∀ q ∈ h, q.pl ≠ x.pl) ∨ ∀ q ∈ wt, q.block ≠ x.block)) ∨ ((∃ q ∈ h, q.pl = x.pl) ∧ ∃ y, wt[to]? = some y ∧ y.block = x.block ∧ ∀ i, i < to → ∀ y, wt[i]? = some y → y.block ≠ x.block)
def ZZ (h wt : List Lk) (x : Lk) (h' wt' : List Lk) (act : Int) : Prop :=
 (YS h wt x = (true, act) ∧ h' = h ∧ wt' = wt) ∨ ((YS h wt x).1 = false ∧
   ((VK h wt x = [] ∧ act = 0 ∧ wt' = wt ∧ ((∃ k q, h[k]? = some q ∧ q.pl = x.pl ∧ h' = h.set k q.strong) ∨ ((∀ q ∈ h, q.pl ≠ x.pl) ∧ h' = h ++ [x]))) ∨
    (VK h wt x ≠ [] ∧ (¬ ∀ q ∈ VK h wt x, x.name.stamp < q.stamp) ∧ act = 2 ∧ h' = h ∧ wt' = wt) ∨
    (VK h wt x ≠ [] ∧ (∀ q ∈ VK h wt x, x.name.stamp < q.stamp) ∧ act = 1 ∧ h' = h ∧ ∃ to, to ≤ wt.length ∧ wt' = vt wt to x ∧ ToP h wt x to)))
def Jkg (h wt : List Lk) (x : Lk) (w : World) (e : Ending) (w' : World) : Prop :=
 ∃ er act v h' wt', e = .returned (.tuple #[v, .int .i8 act, .int .i64 er]) ∧ JcE h' wt' w w' v ∧ ((er = 0 ∧ (OkT h wt ∧ x.may = true) ∧ ZZ h wt x h' wt' act) ∨ (er = 2 ∧ ¬ (OkT h wt ∧ x.may = true) ∧ h' = [] ∧ wt' = [] ∧ act = 0))
set_option maxHeartbeats 4000000 in
theorem Wz (ha wa : Option Addr) (hc wc : Nat) (h wt : List Lk) (x : Lk) (w : World) (hv : LsL 0 w.heap.size w (.slice ha h.length hc) h) (hu : LsL 0 w.heap.size w (.slice wa wt.length wc) wt) (hl : h.length ≤ 1000) (hl2 : wt.length ≤ 1000) :
 CT 220 #[zh ha wa h.length hc wt.length wc, .agg x.cellsL.toArray] w (Jkg h wt x w) := by
 have M := Mem.start w
 refine qI Tryz.func220 96 ?_; intro a S
 refine nxD (qW_ S M ?_); intro a w1 bT S M hB
 refine qW_ S M ?_; intro a w2 bX S M hB
 refine qN S M Zz ?_; intro a w3 bR S M hB
 refine gp [[0,1,1],[5],[902,2,2]] ?_; intro a S
 refine qD S rfl (Kk ha wa hc wc h wt _ (M.argW hv) (M.argW hu)) ?_
 rintro _ w4 ⟨er, rfl, hK, her⟩; replace M := M.grow hK
 refine gq [[0,1,1],[940,18]] ?_ ?_
 ·intro a h18 S
  refine gp [[0,0,0,0,1],[5]] ?_; intro a S
  refine qB_ VD Kf S ?_
  refine go [[900,0],[0,1,1],[4]] ?_; intro a w5 S M
  refine JY S rfl (rA_ 2 0 M) rT_ rT_ ?_
  replace M := (M.rowNil 110 5).rowNil 110 5
  replace M := ((M.drp 2).drp 2).drp 2
  refine ⟨2, 0, _, [], [], rfl, ⟨none, none, 0, 0, _, _, _, _, rfl, M⟩, .inr ⟨rfl, ?_, rfl, rfl, rfl⟩⟩
  grind
 intro a h18 S
 refine gp [[902,1,5]] ?_; intro a S
 refine qK S rfl (Qf x _) M ?_; intro a w6 S hK M
 refine gq [[0,1,1],[2],[940,22]] ?_ ?_
 ·intro a h22 S
  refine cT S (nxD (qB_ VD Kf S ?_)); intro a S
  refine go [[900,0],[0,1,1],[4]] ?_; intro a w7 S M
  refine JY S rfl (rA_ 2 0 M) rT_ rT_ ?_
  replace M := (M.rowNil 110 5).rowNil 110 5
  replace M := ((M.drp 2).drp 2).drp 2
  refine ⟨2, 0, _, [], [], rfl, ⟨none, none, 0, 0, _, _, _, _, rfl, M⟩, .inr ⟨rfl, ?_, rfl, rfl, rfl⟩⟩
  grind
 intro a h22 S
 refine gp [[4]] ?_; intro a S
 have her0 : er = 0 := by omega
 have hok := her.1 her0
 have hmy : x.may = true := by omega
 refine gp [[1],[902,2,2]] ?_; intro a S
 refine qD S rfl (Jci ha wa hc wc h wt _ (M.argW hv) (M.argW hu) o_ o_) ?_
 rintro _ w8 ⟨v, rfl, ha2, wa2, hc2, wc2, lo1, hi1, lo2, hi2, rfl, M1⟩; refine rv_ ?_; intro a S; replace M := M.join M1; clear M1
 replace M := M.c_
 refine qN S M Zz ?_; intro a w9 bU S M hB
 refine go [[900,0],[5],[902,5,2],[902,4,5]] ?_; intro a w10 S M
 refine qK S rfl (ES ha wa hc wc h wt x _ (M.argW hv) (M.argW hu)) M ?_; intro a w11 S hK M
 refine gp [[0,1,1,1,1,1],[4,1],[2]] ?_; intro a S
 refine Js (t := 32) S rfl ?_ ?_
 ·intro h32 S
  refine go [[3],[902,0,2],[0,1],[900,3],[0,1,1],[4]] ?_; intro a w12 S M
  refine JY S rfl (rA_ 2 3 M) rT_ rT_ ?_
  skip
  replace M := M.od [2, 2]
  replace M := (((M.drp 2).drp 2).drp 2).drp 2
  exact ⟨0, _, _, h, wt, rfl, ⟨ha2, wa2, hc2, wc2, _, _, _, _, rfl, M⟩, .inl ⟨rfl, ⟨hok, hmy⟩, .inl ⟨Prod.ext h32 rfl, rfl, rfl⟩⟩⟩
 intro h32 S
 refine cF S (wp_skip (nxE (qY S (Jx (fs := []) (cs := [.tmp 3]) S rfl rfl) ?_))); intro a S
 refine gp [[0,1],[4,1,1,1]] ?_; intro a S
 refine qD S rfl (Z6 (fi := []) (ca := [p_ bX]) (Ji Tryz.func278 d_ rfl) ha2 hc2 h (fun y => decide (y.pl = x.pl)) _ (M.readAll 1 rfl (by grind [maxLen])) (fun y w' hb => JgC y x bX w' ((hb.block bX (M.blk 4 rfl).lt).trans (M.blk 4 rfl)))) ?_
 rintro _ w13 ⟨j, rfl, hK, hj⟩; replace M := M.grow hK
 refine gp [[0,1],[4],[902,5,2],[902,4,5]] ?_; intro a S
 refine qD S rfl (JaB ha wa hc wc h wt x _ (M.argW hv)) ?_
 rintro _ w14 ⟨bT2, bL2, bU2, rfl, M1⟩; refine rv_ ?_; intro a S; replace M := M.join M1; clear M1
 replace M := M.c_
 refine qD S rfl (Jat (Ji Tryz.func328 d_ rfl) (EL bT2 bL2 bU2 ha wa hc wc h wt x (J1 h x.pl != 0)) _ (fun W hW => AgC.mono ⟨M.blk 2 rfl, M.blk 1 rfl, M.blk 0 rfl, M.argW hv, M.argW hu⟩ hW) (by grind [WA])) ?_
 rintro _ w15 ⟨na, nc, lo3, hi3, rfl, M1⟩; refine rv_ ?_; intro a S; replace M := M.join M1; clear M1
 replace M := M.c_
 replace M := ((M.drp 1).drp 1).drp 1
 generalize hag : agR h wt x (J1 h x.pl != 0) = ns at S M
 refine gq [[0,1],[6,1],[903,43],[0,1,1],[943,48]] ?_ ?_
 ·intro a h48 S
  refine gq [[0,0,0,1,1],[5,1],[903,43],[0,1,1],[2],[940,58]] ?_ ?_
  ·intro a h58 S
   refine gp [[3,1,2],[902,5,5]] ?_; intro a S
   refine JG (ps := [(0, .tmp 64)]) (e := 110) (sz := 5) (zl := cz9) (cs := [_, _, _, _, _]) S M rfl rfl o_ rfl (rfl) ?_; intro a w28 bZ S M hB
   refine qP_ (e := 110) (sz := 5) (by_ := 40) (zc := cz9) S M 3 rfl rfl rfl (show Rd _ _ _ 5 _ 1 x.cellsL from M.sliceAt 0 rfl (M.cellsAt (k := 5) 0 rfl rfl) rfl (Nat.le_refl _) o_) ?_; intro a w29 vA loA hiA S M
   obtain ⟨aA, cA, rfl, -, -⟩ := (M.readAll 0 rfl o_).form
   refine qY S (VH (k := 0) S o_ rfl) ?_
   refine go [[900,3],[4],[902,3,2],[900,5],[0,1,1],[5]] ?_; omega
  intro a h58 S
  refine gp [[3,1],[902,5,3],[0,1]] ?_; intro a S
  refine qD S rfl (WI x.name na nc ns _ (M.readAll 0 rfl (by grind [WA, maxLen]))) ?_
  rintro _ w32 ⟨bw, rfl, hK, hbw⟩; replace M := M.grow hK
  refine gq [[0,1,1],[2],[940,69]] ?_ ?_
  ·intro a h69 S
   refine go [[3],[902,1,2],[900,4],[0,1,1],[5]] ?_; intro a w33 S M
   refine JY S rfl (rA_ 2 4 M) rT_ rT_ ?_
   skip
   replace M := M.od [3, 3]
   replace M := ((((M.drp 2).drp 2).drp 2).drp 2).drp 2
   have hA : VK h wt x = ns := hag
   have hnn : VK h wt x ≠ [] := fun e => by
    grind
   have hnA : ¬ ∀ q ∈ VK h wt x, x.name.stamp < q.stamp := fun h9 => by
    grind
   exact ⟨0, 2, _, h, wt, rfl, ⟨ha2, wa2, hc2, wc2, _, _, _, _, rfl, M⟩, .inl ⟨rfl, ⟨hok, hmy⟩, .inr ⟨h32, .inr (.inl ⟨hnn, hnA, rfl, rfl, rfl⟩)⟩⟩⟩
  intro a h69 S
  refine gp [[5]] ?_; intro a S
  have hA : VK h wt x = ns := hag
  have hnn : VK h wt x ≠ [] := fun e => by
   grind
  have hall : ∀ q ∈ VK h wt x, x.name.stamp < q.stamp := by grind
  replace M := (M.drp 0).drp 5
  replace M := M.od [3, 4, 2, 4, 4]
  refine gp [[1,2,3],[903,110],[0,1],[2]] ?_; intro a S
  refine YI (fun a w' => ∃ (to : Nat), to ≤ wt.length ∧ ToP h wt x to ∧ Jk 96 a [(3, p_ bX), (4, p_ bR), (7, p_ bU), (13, .int .i64 (to : Int))] ∧ Mem w w' [Jd lo1 hi1 110 5 (.slice ha2 h.length hc2) h.length (Jg h), Jd lo2 hi2 110 5 (.slice wa2 wt.length wc2) wt.length (Jg wt), .blk bU #[.slice ha2 h.length hc2, .slice wa2 wt.length wc2] 30, .blk bX x.cellsL.toArray 110, .blk bR Zz 30]) ?_ ?_
  ·skip
   refine gq [[2,1,1],[2],[943,80]] ?_ ?_
   ·intro a h80 S
    refine gp [[3]] ?_; intro a S
    (refine ⟨wt.length, Nat.le_refl _, .inl ⟨rfl, .inl fun q hq e => ?_⟩, S.sub _ rfl, M⟩
     rcases hj with ⟨k, q', rfl, -⟩ | ⟨-, h0⟩
     ·omega
     grind)
   intro a h80 S
   refine gp [[3,2,3]] ?_; intro a S
   refine qY S (Jx (fs := []) (cs := [.tmp 3]) S rfl rfl) ?_; intro a S
   refine qD S rfl (Z6 (fi := []) (ca := [p_ bX]) (Ji Tryz.func283 d_ rfl) wa2 wc2 wt (fun y => y.block == x.block) _ (M.readAll 1 rfl (by grind [maxLen])) (fun y w' hb => EI y x bX w' ((hb.block bX (M.blk 3 rfl).lt).trans (M.blk 3 rfl)))) ?_
   rintro _ w34 ⟨j2, rfl, hK, hj2⟩; replace M := M.grow hK
   refine gq [[0,1],[4,1,1],[2],[943,86]] ?_ ?_
   ·intro a h86 S
    refine gp [[3]] ?_; intro a S
    (rcases hj2 with ⟨k2, q2, rfl, -⟩ | ⟨rfl, hq4⟩
     ·omega
     ·exact ⟨wt.length, Nat.le_refl _, .inl ⟨rfl, .inr fun q hq => by grind⟩, S.sub _ rfl, M⟩)
   intro a h86 S
   refine gp [[2,1,1],[2]] ?_; intro a S
   (have hup : ∃ q ∈ h, q.pl = x.pl := by
     rcases hj with ⟨k, q, rfl, hq, hqp, -⟩ | ⟨h1, -⟩
     ·exact ⟨q, List.mem_of_getElem? hq, by simpa using hqp⟩
     ·omega
    rcases hj2 with ⟨k2, q2, rfl, hq2, hq3, hq4⟩ | ⟨rfl, hq4⟩
    ·exact ⟨k2, Nat.le_of_lt (List.getElem?_eq_some_iff.1 hq2).1, .inr ⟨hup, q2, hq2, by simpa using hq3, fun i hi y hy => by simpa using hq4 i y hi hy⟩, S.sub _ rfl, M⟩
    omega)
  intro a wc
  rintro ⟨to, hto1, hto2, S, M⟩
  refine gp [[2,2,3,1],[902,3,5]] ?_; intro a S
  refine JG (ps := [(0, .tmp 91)]) (e := 110) (sz := 5) (zl := cz9) (cs := [_, _, _, _, _]) S M rfl rfl k_ rfl (rfl) ?_; intro a w35 bZ S M hB
  skip
  replace M := M.frn 2
  refine qD S rfl (Ud M o_ hto1) ?_
  rintro _ w36 ⟨la', lc', lo', hi', rfl, M1⟩; replace M := M1; clear M1
  refine go [[0,2],[900,3],[4],[902,3,2],[900,5],[0,1,1],[3]] ?_; intro a w38 S M
  refine JY S rfl (rA_ 2 5 M) rT_ rT_ ?_
  skip
  replace M := M.frn 2
  replace M := (((M.drp 2).drp 2).drp 2).drp 2
  exact ⟨0, 1, _, h, vt wt to x, rfl, ⟨ha2, la', hc2, lc', _, _, _, _, by rw [Qh hto1], by rw [Qh hto1]; exact M⟩, .inl ⟨rfl, ⟨hok, hmy⟩, .inr ⟨h32, .inr (.inr ⟨hnn, hall, rfl, rfl, to, hto1, rfl, hto2⟩)⟩⟩⟩
 intro a h48 S
 refine gq [[0,1,1,1,1],[2],[940,44]] ?_ ?_
 ·intro a h44 S
  refine cT S (wp_seq ?_)
  obtain ⟨k, q, rfl, hq, hqp⟩ : ∃ (k : Nat) (q : Lk), j = (k : Int) ∧ h[k]? = some q ∧ q.pl = x.pl := by
   rcases hj with ⟨k, q, h1, h2, h3, -⟩ | ⟨h1, -⟩
   ·exact ⟨k, q, h1, h2, by simpa using h3⟩
   ·omega
  have hkl := (List.getElem?_eq_some_iff.1 hq).1
  refine gp [[1,1,2,1],[905,110,5,2],[0,5]] ?_; intro a S
  refine Vh (v := .slice ha2 h.length hc2) (sz := 5) (m := h.length) (j := k * 5 + 4) (us := [.bool true]) S M 2 rfl k_ rfl rfl (by rfl) rfl rfl rfl rfl rfl o_ (J3 h) (by rw [J3]; show k * 5 + 4 + 1 ≤ _; omega) ?_; intro wz lo9 hi9 M
  replace M := M.e_
  refine go [[4],[902,2,2],[900,4],[0,1,1],[5]] ?_; intro a w16 S M
  refine JY S rfl (rA_ 2 4 M) rT_ rT_ ?_
  skip
  replace M := M.od [3, 1]
  replace M := ((((M.drp 2).drp 2).drp 2).drp 2).drp 2
  have e : (Jg h).set (k * 5 + 4) (.bool true) = Jg (h.set k q.strong) := GD hq
  have el : (h.set k q.strong).length = h.length := List.length_set
  have hns : VK h wt x = [] := hag.trans (List.eq_nil_of_length_eq_zero o_)
  exact ⟨0, 0, _, h.set k q.strong, wt, rfl, ⟨ha2, wa2, hc2, wc2, _, _, _, _, by rw [el], by rw [el, ← e]; exact M⟩, .inl ⟨rfl, ⟨hok, hmy⟩, .inr ⟨h32, .inl ⟨hns, rfl, rfl, .inl ⟨k, q, hq, hqp, rfl⟩⟩⟩⟩⟩
 intro a h44 S
 refine gq [[3,1],[903,43],[0,1,1],[2],[940,58]] ?_ ?_
 ·intro a h58 S
  refine gp [[3,1,2],[902,5,5]] ?_; intro a S
  refine JG (ps := [(0, .tmp 64)]) (e := 110) (sz := 5) (zl := cz9) (cs := [_, _, _, _, _]) S M rfl rfl k_ rfl (rfl) ?_; intro a w17 bZ S M hB
  refine qP_ (e := 110) (sz := 5) (by_ := 40) (zc := cz9) S M 3 rfl rfl rfl (show Rd _ _ _ 5 _ 1 x.cellsL from M.sliceAt 0 rfl (M.cellsAt (k := 5) 0 rfl rfl) rfl (Nat.le_refl _) m_) ?_; intro a w18 vA loA hiA S M
  obtain ⟨aA, cA, rfl, -, -⟩ := (M.readAll 0 rfl m_).form
  refine qY S (VH (k := 0) S k_ rfl) ?_
  refine go [[900,3],[4],[902,3,2],[900,5],[0,1,1],[5]] ?_; intro a w20 S M
  refine JY S rfl (rA_ 2 5 M) rT_ rT_ ?_
  skip
  replace M := M.od [4, 1]
  replace M := (((((M.drp 2).drp 2).drp 2).drp 2).drp 2).drp 2
  (have e1 : (h ++ [x]).length = h.length + 1 := by simp
   have e2 : Jg (h ++ [x]) = Jg h ++ x.cellsL := by rw [Vn]; simp [Jg]
   have hns : VK h wt x = [] := hag.trans (List.eq_nil_of_length_eq_zero o_)
   have hno : ∀ q ∈ h, q.pl ≠ x.pl := by
    rcases hj with ⟨k, q, rfl, -⟩ | ⟨-, h0⟩
    ·omega
    ·intro q hq e; have := h0 q hq; simp [e] at this
   exact ⟨0, 0, _, h ++ [x], wt, rfl, ⟨aA, wa2, cA, wc2, _, _, _, _, by rw [e1], by rw [e1, e2]; exact M⟩, .inl ⟨rfl, ⟨hok, hmy⟩, .inr ⟨h32, .inl ⟨hns, rfl, rfl, .inr ⟨hno, rfl⟩⟩⟩⟩⟩)
 intro a h58 S
 refine gp [[3,1],[902,5,3],[0,1]] ?_; intro a S
 refine qD S rfl (WI x.name na nc ns _ (M.readAll 0 rfl (by have := WA h wt x (J1 h x.pl != 0); rw [hag] at this; unfold maxLen; omega))) ?_
 rintro _ w21 ⟨bw, rfl, hK, hbw⟩; replace M := M.grow hK
 refine gq [[0,1,1],[2],[940,69]] ?_ ?_
 ·intro a h69 S
  refine go [[3],[902,1,2],[900,4],[0,1,1],[5]] ?_; intro a w22 S M
  refine JY S rfl (rA_ 2 4 M) rT_ rT_ ?_
  skip
  replace M := M.od [3, 3]
  replace M := ((((M.drp 2).drp 2).drp 2).drp 2).drp 2
  have hA : VK h wt x = ns := hag
  have hnn : VK h wt x ≠ [] := fun e => by
   have : ns.length = 0 := by rw [← hA, e]; rfl
   omega
  have hnA : ¬ ∀ q ∈ VK h wt x, x.name.stamp < q.stamp := fun h9 => by
   rw [hA] at h9
   have := hbw.2 h9
   rw [h69] at this; cases this
  exact ⟨0, 2, _, h, wt, rfl, ⟨ha2, wa2, hc2, wc2, _, _, _, _, rfl, M⟩, .inl ⟨rfl, ⟨hok, hmy⟩, .inr ⟨h32, .inr (.inl ⟨hnn, hnA, rfl, rfl, rfl⟩)⟩⟩⟩
 intro a h69 S
 refine gp [[5]] ?_; intro a S
 have hA : VK h wt x = ns := hag
 have hnn : VK h wt x ≠ [] := fun e => by
  have : ns.length = 0 := by rw [← hA, e]; rfl
  omega
 have hall : ∀ q ∈ VK h wt x, x.name.stamp < q.stamp := by rw [hA]; exact hbw.1 h69
 replace M := (M.drp 0).drp 5
 replace M := M.od [3, 4, 2, 4, 4]
 refine gp [[1,2,3],[903,110],[0,1],[2]] ?_; intro a S
 refine YI (fun a w' => ∃ (to : Nat), to ≤ wt.length ∧ ToP h wt x to ∧ Jk 96 a [(3, p_ bX), (4, p_ bR), (7, p_ bU), (13, .int .i64 (to : Int))] ∧ Mem w w' [Jd lo1 hi1 110 5 (.slice ha2 h.length hc2) h.length (Jg h), Jd lo2 hi2 110 5 (.slice wa2 wt.length wc2) wt.length (Jg wt), .blk bU #[.slice ha2 h.length hc2, .slice wa2 wt.length wc2] 30, .blk bX x.cellsL.toArray 110, .blk bR Zz 30]) ?_ ?_
 ·skip
  refine gq [[2,1,1],[2],[943,80]] ?_ ?_
  ·intro a h80 S
   refine gp [[3]] ?_; intro a S
   (refine ⟨wt.length, Nat.le_refl _, .inl ⟨rfl, .inl fun q hq e => ?_⟩, S.sub _ rfl, M⟩
    rcases hj with ⟨k, q', rfl, -⟩ | ⟨-, h0⟩
    ·omega
    ·have := h0 q hq; simp [e] at this)
  intro a h80 S
  refine gp [[3,2,3]] ?_; intro a S
  refine qY S (Jx (fs := []) (cs := [.tmp 3]) S rfl rfl) ?_; intro a S
  refine qD S rfl (Z6 (fi := []) (ca := [p_ bX]) (Ji Tryz.func283 d_ rfl) wa2 wc2 wt (fun y => y.block == x.block) _ (M.readAll 1 rfl m_) (fun y w' hb => EI y x bX w' ((hb.block bX (M.blk 3 rfl).lt).trans (M.blk 3 rfl)))) ?_
  rintro _ w23 ⟨j2, rfl, hK, hj2⟩; replace M := M.grow hK
  refine gq [[0,1],[4,1,1],[2],[943,86]] ?_ ?_
  ·intro a h86 S
   refine gp [[3]] ?_; intro a S
   (rcases hj2 with ⟨k2, q2, rfl, -⟩ | ⟨rfl, hq4⟩
    ·omega
    ·exact ⟨wt.length, Nat.le_refl _, .inl ⟨rfl, .inr fun q hq => by simpa using hq4 q hq⟩, S.sub _ rfl, M⟩)
  intro a h86 S
  refine gp [[2,1,1],[2]] ?_; intro a S
  (have hup : ∃ q ∈ h, q.pl = x.pl := by
    rcases hj with ⟨k, q, rfl, hq, hqp, -⟩ | ⟨h1, -⟩
    ·exact ⟨q, List.mem_of_getElem? hq, by simpa using hqp⟩
    ·omega
   rcases hj2 with ⟨k2, q2, rfl, hq2, hq3, hq4⟩ | ⟨rfl, hq4⟩
   ·exact ⟨k2, Nat.le_of_lt (List.getElem?_eq_some_iff.1 hq2).1, .inr ⟨hup, q2, hq2, by simpa using hq3, fun i hi y hy => by simpa using hq4 i y hi hy⟩, S.sub _ rfl, M⟩
   ·omega)
 intro a wc
 rintro ⟨to, hto1, hto2, S, M⟩
 refine gp [[2,2,3,1],[902,3,5]] ?_; intro a S
 refine JG (ps := [(0, .tmp 91)]) (e := 110) (sz := 5) (zl := cz9) (cs := [_, _, _, _, _]) S M rfl rfl k_ rfl (rfl) ?_; intro a w24 bZ S M hB
 skip
 replace M := M.frn 2
 refine qD S rfl (Ud M o_ hto1) ?_
 omega
set_option maxHeartbeats 1000000 in
theorem ZR {f : FuncId} {fi ca : List Value} (hE : VL Tryz.prog f) (va : Option Addr) (vc : Nat) (l : List Lk) (p : Lk → Bool) (w : World) (hv : LsL 0 w.heap.size w (.slice va l.length vc) l) (hl : l.length ≤ 1000000)
 (hstep : ∀ (x : Lk), x ∈ l → ∀ (w' : World), Below w.heap.size w w' → CT f (fi ++ ([Value.agg x.cellsL.toArray] ++ ca)).toArray w' (fun e w'' => e = .returned (.bool (p x)) ∧ Below w'.heap.size w' w'')) :
 CT 288 #[.slice va l.length vc, .func (.func f) fi.toArray ca.toArray] w (fun e w' => ∃ va' vc' lo hi, e = .returned (.slice va' (l.filter p).length vc') ∧ Mem w w' [Jd lo hi 110 5 (.slice va' (l.filter p).length vc') (l.filter p).length (Jg (l.filter p))]) := by
 have M := Mem.start w
 refine qI Tryz.func288 23 ?_
 refine gp [[2,1],[4,1],[5,1],[903,110],[0,1],[3]] ?_; intro a S
 refine Jc (fun m a w' => ∃ (k : Nat) (va' : Option Addr) (vc' lo hi : Nat), k ≤ l.length ∧ m = l.length - k ∧ Jk 23 a [(1, .func (.func f) fi.toArray ca.toArray), (5, .slice va' ((l.take k).filter p).length vc'), (8, .slice va l.length vc), (9, .int .i64 (l.length : Int)), (10, .int .i64 (k : Int))] ∧ Mem w w' [Jd lo hi 110 5 (.slice va' ((l.take k).filter p).length vc') ((l.take k).filter p).length (Jg ((l.take k).filter p))]) (l.length) ?_ ?_
 ·skip
  replace M := M.rowNil 110 5
  exact ⟨0, none, 0, _, _, Nat.zero_le _, rfl, S.sub _ rfl, M⟩
 intro m a wl
 rintro ⟨k, va', vc', lo, hi, hk, rfl, S, M⟩
 have hfl : ((l.take k).filter p).length ≤ k := Nat.le_trans (List.length_filter_le _ _) (by grind)
 refine gq [[2,1],[3],[943,11]] ?_ ?_
 ·intro a h11 S
  refine gp [[8,1,1],[3],[930]] ?_
  grind
 intro a h11 S
 refine gp [[6]] ?_; intro a S
 obtain ⟨q, hq⟩ : ∃ q, l[k]? = some q := ⟨_, List.getElem?_eq_getElem o_⟩
 have hst : (l.take (k + 1)).filter p = (l.take k).filter p ++ if p q = true then [q] else [] := by
  grind [List.take_add_one]
 refine gp [[1],[907,110,5]] ?_; intro a S
 refine qY S (Ja S k_ rfl rfl ((M.arg hv).at_.row (i := k) (J6 hq) rfl)) ?_; intro a S
 refine qN S M yg ?_; intro a w1 bX S M hB
 refine go [[900,0],[4,1],[902,0,5]] ?_; intro a w2 S M
 refine JR (xs := [.tmp 15]) (fi := fi) (ca := ca) S (hE) rfl rfl (rfl) rfl (hstep q (List.mem_of_getElem? hq) _ M.below) ?_
 rintro _ w3 ⟨rfl, hK⟩; replace M := M.grow hK
 refine gp [[2]] ?_; intro a S
 refine Jm (t := 16) S rfl ?_ ?_
 ·intro h16 S
  refine gp [[5],[901],[0,1],[2]] ?_; intro a S
  replace M := M.drp 0
  (rw [if_neg (by rw [h16]; decide), List.append_nil] at hst
   exact ⟨l.length - (k + 1), by omega, k + 1, va', vc', lo, hi, by omega, rfl, by rw [hst]; exact S.sub _ rfl, by rw [hst]; exact M⟩)
 intro h16 S
 refine gp [[2,1],[902,0,5]] ?_; intro a S
 refine JG (ps := [(0, .tmp 18)]) (e := 110) (sz := 5) (zl := cz9) (cs := [_, _, _, _, _]) S M rfl rfl k_ rfl (rfl) ?_; intro a w4 bZ S M hB
 refine qP_ (e := 110) (sz := 5) (by_ := 40) (zc := cz9) S M 2 rfl rfl rfl (show Rd _ _ _ 5 _ 1 q.cellsL from M.sliceAt 0 rfl (M.cellsAt (k := 5) 0 rfl rfl) rfl (Nat.le_refl _) m_) ?_; intro a w5 vA loA hiA S M
 obtain ⟨aA, cA, rfl, -, -⟩ := (M.readAll 0 rfl m_).form
 replace M := M.drp 1
 refine qY S (JP S rfl) ?_
 refine gp [[4],[901],[0,1],[2]] ?_; intro a S
 replace M := M.drp 1
 (rw [if_pos h16] at hst
  have e1 : ((l.take (k + 1)).filter p).length = ((l.take k).filter p).length + 1 := by rw [hst]; simp
  have e2 : Jg ((l.take (k + 1)).filter p) = Jg ((l.take k).filter p) ++ q.cellsL := by rw [hst, Vn]; simp [Jg]
  exact ⟨l.length - (k + 1), by omega, k + 1, aA, cA, loA, hiA, by omega, rfl, by rw [e1]; exact S.sub _ rfl, by rw [e1, e2]; exact M⟩)
theorem yF (x : Lk) (n : Nm) (b : Nat) (w : World) (hN : Blk w b n.cells 43) :
 CQ 287 #[.agg x.cellsL.toArray, p_ b] w (.bool (!x.name.eqb n)) := by
 have M := Mem.start w
 refine qI Tryz.func287 8 ?_; intro a S
 refine nxD (qW_ S M ?_); intro a w1 bD S M hB
 refine gp [[0,1],[4,1],[902,0,3]] ?_; intro a S
 refine qY S (Ja S k_ rfl rfl (show CellsAt _ b 0 n.cells.toList from Blk.cellsAt (o := 0) (k := 3) ((M.below.block b hN.lt).trans hN) rfl)) ?_; intro a S
 refine qY S (jU k_ S rfl rfl (fun w => VG 9998 x.name n w)) ?_
 refine gp [[0,1],[3],[930]] ?_
 grind
theorem Jfx (x : Lk) (k : Int) (b : Nat) (w : World) (hN : Blk w b #[.int .i64 k] 3) :
 CQ 289 #[.agg x.cellsL.toArray, p_ b] w (.bool (x.block == k)) := by
 have M := Mem.start w
 refine qI Tryz.func289 8 ?_; intro a S
 refine nxD (qW_ S M ?_); intro a w1 bD S M hB
 refine gp [[0,1],[4,4,1]] ?_; intro a S
 refine qY S (Jf S k_ rfl (show World.cell? _ ⟨b, 0, none⟩ = some (.int .i64 k) from Blk.cells (show Blk _ b #[.int .i64 k] 3 from (M.below.block b hN.lt).trans hN) 0
)) ?_; intro a S
 refine gp [[0,1,1],[3],[930]] ?_
 exact ⟨rfl, M.below⟩
abbrev zHB : Array Value := (List.replicate 32 (Value.slice none 0 0)).toArray
abbrev Jk1 (s : Int) (b : Bool) : Lk := ⟨⟨s, 1, 1⟩, 5, b⟩
theorem JhN : OkT [] [] := ⟨fun x h => (by cases h), .nil, fun k _ h => absurd h (by simp [vz]), fun x h => (by cases h), .nil, fun x h => (by cases h)⟩
theorem JaM {x : Lk} (h : x.may = true) : OkT [x] [] := by
 refine ⟨fun y hy => by grind, by simp, fun k _ _ => ?_, fun x h => (by cases h), .nil, fun x h => (by cases h)⟩
 grind [Ja4]
theorem JeX {x : Lk} {h' wt' : List Lk} {act : Int} (R : ZZ [] [] x h' wt' act) : h' = [x] ∧ wt' = [] ∧ act = 0 := by
 have hm := JaQ x
 have h0 : YS [] [] x = (false, 0) := by
  unfold YS
  rw [if_neg (by show ¬ x.mode ≤ 0; omega), if_neg (by simp)]
 have ha : VK [] [] x = [] := by
  grind [VK, agR, nf]
 rcases R with ⟨h1, -, -⟩ | ⟨-, h1⟩
 ·grind
 grind
structure AloneI (n : Nm) (h : List Lk) : Prop where
 name : ∀ q ∈ h, q.name = n
 may : ∀ q ∈ h, q.may = true
 nodup : (h.map Lk.pl).Nodup
/-! the two maps -/
abbrev eI : Int → Value := fun z => .int .i64 z
def SV (n : Nm) (ms : Mes Int) (h : List Lk) : Prop := ∀ k, (VJ ms k).getD (.bool false) = .bool (decide (J1 h (n, k) = 2))
def AV (n : Nm) (ma : Mes Int) (h : List Lk) : Prop := ∀ k, (VJ ma k).getD (.bool false) = .bool (decide (0 < J1 h (n, k)))
theorem Jia (d : Nat) (x y : Lk) (w : World) : (Op.equalIn (d + 3) 110 (.agg x.cellsL.toArray) (.agg y.cellsL.toArray)).run Tryz.prog w = .ok (decide (x = y)) w := by
 have e : decide (x = y) = (x.name.eqb y.name && x.block == y.block && x.excl == y.excl) := by
  rw [Bool.eq_iff_iff, decide_eq_true_eq, Bool.and_eq_true, Bool.and_eq_true, Nm.eqb_iff, beq_iff_eq, beq_iff_eq]
  constructor
  ·grind
  ·rintro ⟨⟨h1, h2⟩, h3⟩; cases x; simp_all
 rw [e]
 simp [go_sem, Nm.eqb]
 grind
def Jje (h wt : List Lk) (k : Nat) : Prop := ∀ i x, i < k → wt[i]? = some x → (∀ q ∈ h, jh x q = true → x.name.stamp < q.name.stamp) ∧ ∀ q ∈ wt.take i, jh x q = true → x.name.stamp < q.name.stamp
def Jkv (h wt : List Lk) : Prop := Jje h wt wt.length
section
variable {l : List Lk}
theorem Gu {a b : Lk} : jh a b = true ↔ a.block = b.block ∧ a.name ≠ b.name ∧ (a.excl = true ∨ b.excl = true) := by
 grind [jh, Nm.eqb_iff]
theorem JiH {a b : Lk} (h1 : a.name = b.name) (h2 : a.block = b.block) : a.pl = b.pl := Prod.ext h1 h2
theorem JgO (hn : (l.map Lk.pl).Nodup) {i j : Nat} {x y : Lk} (hx : l[i]? = some x) (hy : l[j]? = some y) (e : x.pl = y.pl) : i = j := by
 have e1 : (l.map Lk.pl)[i]? = some x.pl := by grind
 have e2 : (l.map Lk.pl)[j]? = some x.pl := by grind
 grind [List.getElem?_inj]
theorem JdS (hn : (l.map Lk.pl).Nodup) {x y : Lk} (hx : x ∈ l) (hy : y ∈ l) (e : x.pl = y.pl) : x = y := by
 grind [List.getElem?_of_mem, JgO]
theorem KR (h : (l.map Lk.pl).Nodup) : l.Nodup := (List.pairwise_map.1 h).imp fun h e => h (congrArg Lk.pl e)
def Jjj (h : List Lk) : Prop := ∀ q1 ∈ h, ∀ q2 ∈ h, q1.block = q2.block → q1.excl = true → q2 = q1
structure OkM (h wt : List Lk) : Prop where
 may : ∀ x ∈ h, x.may = true
 nodup : (h.map Lk.pl).Nodup
 alone : Jjj h
 wmay : ∀ x ∈ wt, x.may = true
 wnodup : (wt.map Lk.pl).Nodup
 wexcl : ∀ x ∈ wt, ∀ q ∈ h, q.pl = x.pl → q.excl = false
structure YoungM (h wt : List Lk) : Prop where
 held : ∀ w ∈ wt, ∀ q ∈ h, jh w q = true → w.name.stamp < q.name.stamp
 ahead : wt.Pairwise fun q w => jh w q = true → w.name.stamp < q.name.stamp
def Jjg (h wt : List Lk) (k : Int) : Prop := ∀ f, (wt.filter fun y => y.block == k).head? = some f → ∃ q ∈ h, jh q f = true
def Jhg (h wt : List Lk) : Prop := ∀ k, Jjg h wt k
theorem JbV {R : Lk → Lk → Prop} {p : Lk → Bool} {f w : Lk} (hf : (l.filter p).head? = some f) (hw : w ∈ l) (hp : p w = true) (hne : w ≠ f) (hP : l.Pairwise R) : R f w := by
 have hw' : w ∈ l.filter p := List.mem_filter.2 ⟨hw, hp⟩
 have hP' := hP.filter p
 cases hl : l.filter p with
 | nil => grind
 | cons x r =>
   grind [List.pairwise_cons]
theorem JfZ {p : Lk → Bool} {f : Lk} (hf : (l.filter p).head? = some f) : f ∈ l ∧ p f = true := by
 grind
theorem Jjb {h wt : List Lk} (O : OkM h wt) (Y : YoungM h wt) (K : Jhg h wt) {w q : Lk} (hw : w ∈ wt) (hq : q ∈ h) (hb : w.block = q.block) (hn : w.name ≠ q.name) : w.name.stamp < q.name.stamp := by
 by_cases hc : w.excl = true ∨ q.excl = true
 ·exact Y.held w hw q hq (Gu.2 ⟨hb, hn, hc⟩)
 ·obtain ⟨f, hf⟩ : ∃ f, (wt.filter fun y => y.block == q.block).head? = some f := by
   cases hf : (wt.filter fun y => y.block == q.block) with
   | nil => grind [List.filter_eq_nil_iff]
   | cons f l => simp_all
  obtain ⟨q', hq', hcq⟩ := K _ f hf
  obtain ⟨hfm, hfb⟩ := JfZ hf
  have hfb : f.block = q.block := by grind
  rw [Gu] at hcq
  have hfe : f.excl = true := by
   rcases hcq.2.2 with h1 | h1
   ·have := O.alone q' hq' q hq o_ h1
    grind
   omega
  have hwf : w ≠ f := fun e => hc (.inl (e ▸ hfe))
  have hwfn : w.name ≠ f.name := fun e => hwf (JdS O.wnodup hw hfm (JiH e (hb.trans hfb.symm)))
  have h1 : w.name.stamp < f.name.stamp := JbV hf hw (by grind) hwf Y.ahead (Gu.2 ⟨hb.trans hfb.symm, hwfn, .inr hfe⟩)
  by_cases e : f.name = q.name
  ·grind
  ·have := Y.held f hfm q hq (Gu.2 ⟨hfb, e, .inl hfe⟩); omega
/-! a holder's lock made exclusive; a holder more -/
/-! a request -/
structure TabM (NP : Nm → Prop) (h wt : List Lk) : Prop where
 ok : OkM h wt
 young : YoungM h wt
 kept : Jhg h wt
 nh : ∀ q ∈ h, NP q.name
 nw : ∀ q ∈ wt, NP q.name
end
def ZY (held : List Lk) (hs : List Int) (mine : Bool) (x : Lk) : Prop :=
 if x.excl = true then 1 < hs.length ∨ (hs.length = 1 ∧ mine = false) else ∃ (k : Nat) (q : Lk), hs[0]? = some (k : Int) ∧ held[k]? = some q ∧ jh q x = true
set_option maxHeartbeats 1000000 in
theorem Jay (va vb : Option Addr) (vc vd : Nat) (held : List Lk) (hs : List Int) (mine : Bool) (x : Lk) (w : World) (hv : LsL 0 w.heap.size w (.slice va held.length vc) held) (hu : Rd 0 w.heap.size w 1 (.slice vb hs.length vd) hs.length (Vi hs)) (h0 : ∀ z, hs[0]? = some z → ∃ (k : Nat) (q : Lk), z = (k : Int) ∧ held[k]? = some q) :
 CT 290 #[.slice va held.length vc, .slice vb hs.length vd, .bool mine, .agg x.cellsL.toArray] w fun e w' => ∃ b, e = .returned (.bool b) ∧ Below w.heap.size w w' ∧ (b = true ↔ ZY held hs mine x) := by
 have M := Mem.start w
 have hl := hv.2.1
 have hl2 := hu.2.1
 unfold maxLen at hl hl2
 refine qI Tryz.func290 36 ?_; intro a S
 refine nxD (qW_ S M ?_); intro a w1 bX S M hB
 refine gp [[0,1],[5,5,1],[2]] ?_; intro a S
 refine Js (t := 10) S rfl ?_ ?_
 ·intro h10 S
  refine gq [[3,1],[903,3],[0,1,1],[940,14]] ?_ ?_
  ·intro a h14 S
   refine gp [[0,0,0,0,0,0,0,0,1,1],[4],[930]] ?_
   grind [ZY]
  intro a h14 S
  refine gq [[0,1],[903,3],[0,1,1],[940,18]] ?_ ?_
  ·intro a h18 S
   refine gp [[0,1,1,1,1,1],[4],[930]] ?_
   grind [ZY]
  intro a h18 S
  refine gp [[0,0,0,1,1,1],[4],[930]] ?_
  grind [ZY]
 intro h10 S
 refine gp [[4]] ?_; intro a S
 obtain ⟨k, q, hkq⟩ : ∃ (k : Nat) (q : Lk), 0 < hs.length → (hs[0]? = some (k : Int) ∧ held[k]? = some q) := by
  by_cases h : 0 < hs.length
  ·simp_all
  ·exact ⟨0, x, fun h' => absurd h' h⟩
 have hkl : 0 < hs.length → k < held.length := fun h => (List.getElem?_eq_some_iff.1 (hkq h).2).1
 refine go [[910],[911,0,1]] ?_; intro a w2 S M
 refine Jj 1 S rfl (fun w => qH 3 S) ?_; intro a S
 refine Jj 2 S rfl (fun w => J2 S rfl rfl rfl) ?_
 refine gq [[911,3,1],[943,26]] ?_ ?_
 ·intro a h26 S
  refine gp [[911,4,0,0,0,0,0,0,0,0]] ?_; intro a S
  refine Jj 12 S rfl (fun w => Y0 S rfl rfl) ?_
  refine gp [[911,13,1],[3],[930]] ?_
  refine ⟨_, rfl, M.below, ?_⟩
  grind [ZY]
 intro a h26 S
 refine gp [[911,4,1,1]] ?_; intro a S
 refine kR 6 S rfl M (fun w M => qX 3 1 S ((M.arg hu))) ?_; intro a S
 refine kR 7 S rfl M (fun w M => Jf S k_ rfl ((M.arg hu).icell (i := 0) (hkq o_).1)) ?_; intro a S
 refine kR 8 S rfl M (fun w M => qX 110 5 S ((M.arg hv))) ?_; intro a S
 replace S := S.n_
 refine kR 9 S rfl M (fun w M => Ja S k_ rfl rfl ((M.arg hv).at_.row (i := k) (J6 (hkq o_).2) rfl)) ?_; intro a S
 refine kR 10 S rfl M (fun w M => Ja (cs := [_, _, _, _, _]) S k_ rfl rfl (M.cellsAt (k := 5) 0 rfl rfl)) ?_; intro a S
 refine k1_ 11 ?_
 refine qK S rfl (Qr q x _) M ?_; intro a w3 S hK M
 refine kH_ hK ?_
 refine Jj 12 S rfl (fun w => Zq S rfl rfl) ?_
 refine gp [[911,13,1],[3],[930]] ?_
 refine ⟨_, rfl, M.below, ?_⟩
 grind [ZY]
theorem Jfw (x : Lk) (bG g c : Nat) (ml : Mes PlL) (v : Int) (w : World) (hBk : Blk w bG #[.map (some g)] 212) (hg : w.heap[g]? = some (.map (ml.map (·.2)).toArray c)) (hG : Good encP ml c) (hv : (VJ ml x.pl).getD (.int .i8 0) = .int .i8 v) :
 CQ 291 #[.agg x.cellsL.toArray, p_ bG] w (.bool (v == 0)) := by
 have M := Mem.start w
 have hlt : g < w.heap.size := (Array.getElem?_eq_some_iff.1 hg).1
 refine qI Tryz.func291 9 ?_; intro a S
 refine nxD (qW_ S M ?_); intro a w1 bX S M hB
 refine gp [[0,1],[3],[920]] ?_; intro a S
 refine qU S (fun w M => Jf S k_ rfl (show World.cell? _ ⟨bG, 0, none⟩ = some (.map (some g)) from Blk.cells (show Blk _ bG #[.map (some g)] 212 from (M.below.block bG hBk.lt).trans hBk) 0)) ?_; intro a S
 refine qU S (fun w M => Ja (cs := [_, _, _, _, _]) S k_ rfl rfl (M.cellsAt (k := 5) 0 rfl rfl)) ?_; intro a S
 refine jM (xs := [.tmp 5]) S (Ji Tryz.func121 d_ rfl) rfl rfl rfl (ZQ fun w M => YP x _) ?_; intro a S
 refine qU S (fun w M => JcS S ((M.below.block g hlt).trans hg) (zr) (hG) Tryz.underlying212 (Kq) rfl rfl) ?_; intro a S
 simp only [Bool.false_eq_true, if_false, hv] at S
 refine go [[921,1,1],[3],[930]] ?_; intro w3 M
 exact ⟨rfl, M.below⟩
end Go.Proofs.YtocppoflhllelaaGreat
