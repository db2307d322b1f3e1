/-
  What PartStrict rests on, part 19.
-/
import Derived.Test.YtocppoflhllelaaGreatP16
namespace Go.Proofs.YtocppoflhllelaaGreat
open Go.RowKit Go.Sort
theorem ym (v : Value) (l : List Lk) (w : World) (hv : LsL 0 w.heap.size w v l) (hl : l.length ≤ 1000000) : CT 75 #[v] w fun e w' => ∃ v', e = .returned v' ∧ Fresh w w' 110 5 v' l.length (Jg l) := by
 have M := Mem.start w
 refine qI Tryz.func75 8 ?_
 refine gp [[2,1],[5,1]] ?_; intro a S
 refine qY S (ZJ (e := 110) S rfl (M.arg hv) k_) ?_; intro a S
 refine nxC (Js (t := 4) S rfl ?_ ?_)
 ·intro h4 S
  refine gp [[3,1],[4],[930]] ?_
  obtain ⟨rfl, h0, h1⟩ := hv.nilV h4
  exact ⟨_, rfl, by rw [h1, h0]; exact M.freshNil _ _⟩
 intro h4 S
 refine cF S (wp_skip (nxE (jJ (e := 110) (sz := 5) (by_ := 40) (zc := cz9) S M rfl rfl k_ ?_))); intro a w1 b1 S M hB
 refine qG [1] S ?_; intro a S
 replace M := M.toRow (sz := 5) (m := 0) (cap := 0) (xs := []) 0 rfl rfl (Nat.le_refl _) (Nat.zero_le _) rfl rfl
 refine JI (e := 110) (sz := 5) (by_ := 40) (zc := cz9) S M 0 rfl rfl k_ rfl d_ rfl rfl rfl (M.arg hv) (jt _) o_ (by grind [maxLen]) ?_; intro a w2 vA loA hiA S M
 refine gp [[0,1],[3],[930]] ?_
 exact ⟨_, rfl, by have := M.fresh 0 rfl; grind⟩
def JcE (h wt : List Lk) (w w' : World) (v : Value) : Prop :=
 ∃ ha wa hc wc lo1 hi1 lo2 hi2, v = zh ha wa h.length hc wt.length wc ∧ Mem w w' [Jd lo1 hi1 110 5 (.slice ha h.length hc) h.length (Jg h), Jd lo2 hi2 110 5 (.slice wa wt.length wc) wt.length (Jg wt)]
theorem Jci (ha wa : Option Addr) (hc wc : Nat) (h wt : List Lk) (w : World) (hv : LsL 0 w.heap.size w (.slice ha h.length hc) h) (hu : LsL 0 w.heap.size w (.slice wa wt.length wc) wt) (hl : h.length ≤ 1000000) (hl2 : wt.length ≤ 1000000) :
 CT 63 #[zh ha wa h.length hc wt.length wc] w fun e w' => ∃ v, e = .returned v ∧ JcE h wt w w' v := by
 have M := Mem.start w
 refine qI Tryz.func63 10 ?_; intro a S
 refine nxD (qW_ S M ?_); intro a w1 bT S M hB
 refine qN S M Zz ?_; intro a w2 bR S M hB
 refine go [[3],[910,7],[911,0,1,2],[911,3,2,2]] ?_; intro a w3 S M
 refine k1_ 2 ?_
 refine qD S rfl (ym _ h _ (M.argW hv) hl) ?_
 rintro _ w4 ⟨v1, rfl, hF⟩; refine rv_ ?_; intro a S
 have hK := hF.below
 obtain ⟨lo1, hi1, -, M⟩ := M.pushFresh hF
 obtain ⟨ha2, hc2, rfl, -, -⟩ := (M.readAll 0 rfl (by grind [maxLen])).form
 refine kH_ hK ?_
 refine k1_ 5 ?_
 refine qD S rfl (ym _ wt _ (M.argW hu) hl2) ?_
 rintro _ w5 ⟨v2, rfl, hF⟩; refine rv_ ?_; intro a S
 have hK := hF.below
 obtain ⟨lo2, hi2, -, M⟩ := M.pushFresh hF
 obtain ⟨wa2, wc2, rfl, -, -⟩ := (M.readAll 0 rfl (by grind [maxLen])).form
 refine kH_ hK ?_
 refine Jj 6 S rfl (fun w => JW (ps := [(0, .tmp 5), (1, .tmp 8)]) (pl := VD) (z := Kf) (cs := [_, _]) S k_ rfl (rfl)) ?_
 refine go [[914,7,2],[3]] ?_; intro a w6 S M
 refine Vb S rfl (rA_ 2 2 M) ?_
 skip
 replace M := M.frn 1
 replace M := (M.drp 3).drp 2
 exact ⟨_, rfl, ha2, wa2, hc2, wc2, lo1, hi1, lo2, hi2, rfl, M⟩
theorem JgC (x y : Lk) (b : Nat) (w : World) (hN : Blk w b y.cellsL.toArray 110) :
 CQ 278 #[.agg x.cellsL.toArray, p_ b] w (.bool (decide (x.pl = y.pl))) := by
 have M := Mem.start w
 refine qI Tryz.func278 9 ?_; intro a S
 refine nxD (qW_ S M ?_); intro a w1 bD S M hB
 refine gp [[0,1],[3],[920]] ?_; intro a S
 refine qU S (fun w M => Ja (cs := [_, _, _, _, _]) S k_ rfl rfl (M.cellsAt (k := 5) 0 rfl rfl)) ?_; intro a S
 refine jM (xs := [.tmp 4]) S (Ji Tryz.func121 d_ rfl) rfl rfl rfl (ZQ fun w M => YP x _) ?_; intro a S
 refine qU S (fun w M => Ja S k_ rfl rfl (show CellsAt _ b 0 y.cellsL from Blk.cellsAt (o := 0) (k := 5) ((M.below.block b hN.lt).trans hN) rfl)) ?_; intro a S
 refine jM (xs := [.tmp 6]) S (Ji Tryz.func121 d_ rfl) rfl rfl rfl (ZQ fun w M => YP y _) ?_; intro a S
 refine qU S (fun w M => VI k_ S rfl rfl (fun w => Wp 9997 x.pl y.pl w)) ?_
 refine go [[921,1],[3],[930]] ?_; intro w4 M
 exact ⟨rfl, M.below⟩
theorem EI (x y : Lk) (b : Nat) (w : World) (hN : Blk w b y.cellsL.toArray 110) :
 CQ 283 #[.agg x.cellsL.toArray, p_ b] w (.bool (x.block == y.block)) := by
 have M := Mem.start w
 refine qI Tryz.func283 9 ?_; intro a S
 refine nxD (qW_ S M ?_); intro a w1 bD S M hB
 refine gp [[0,1],[4,4,1,4]] ?_; intro a S
 refine qY S (Jf S k_ rfl (show World.cell? _ ⟨b, 3, none⟩ = some (.int .i64 y.block) from Blk.cells (show Blk _ b y.cellsL.toArray 110 from (M.below.block b hN.lt).trans hN) 3
)) ?_; intro a S
 refine gp [[0,1,1],[3],[930]] ?_
 exact ⟨rfl, M.below⟩
theorem Jd2 (n m : Nm) (w : World) : CQ 330 #[.agg n.cells, .agg m.cells] w (.bool (decide (n.stamp < m.stamp))) := by
 have M := Mem.start w
 refine qI Tryz.func330 10 ?_; intro a S
 refine nxD (qW_ S M ?_); intro a w1 bX S M hB
 refine qW_ S M ?_; intro a w2 bY S M hB
 refine gp [[0,1],[4,1,2,1,1,1,1],[3],[930]] ?_
 exact ⟨rfl, M.below⟩
theorem WI (n : Nm) (va : Option Addr) (vc : Nat) (l : List Nm) (w : World) (hv : Rd 0 w.heap.size w 3 (.slice va l.length vc) l.length (Ye l)) :
 CT 282 #[.agg n.cells, .slice va l.length vc] w fun e w' => ∃ b, e = .returned (.bool b) ∧ Below w.heap.size w w' ∧ (b = true ↔ ∀ q ∈ l, n.stamp < q.stamp) := by
 have M := Mem.start w
 have hl := hv.2.1
 unfold maxLen at hl
 refine qI Tryz.func282 18 ?_; intro a S
 refine nxD (qW_ S M ?_); intro a w1 bN S M hB
 refine gp [[0,1],[5,1],[903,43],[0,1],[3]] ?_; intro a S
 refine Jc (fun m a w' => ∃ (i : Nat), i ≤ l.length ∧ m = l.length - i ∧ (∀ q ∈ l.take i, n.stamp < q.stamp) ∧ Jk 18 a [(2, p_ bN), (7, .slice va l.length vc), (8, .int .i64 (l.length : Int)), (9, .int .i64 (i : Int))] ∧ Mem w w' [.blk bN n.cells 43]) (l.length) ?_ ?_
 ·skip
  exact ⟨0, Nat.zero_le _, rfl, fun q hq => (by grind), S.sub _ rfl, M⟩
 intro m a wl
 rintro ⟨i, hi', rfl, hpre, S, M⟩
 refine gq [[2,1],[3],[943,10]] ?_ ?_
 ·intro a h10 S
  refine gp [[8,1],[3],[930]] ?_
  obtain rfl : i = l.length := by omega
  rw [List.take_length] at hpre
  exact ⟨true, rfl, M.below, fun _ => hpre, fun _ => rfl⟩
 intro a h10 S
 refine gp [[6]] ?_; intro a S
 obtain ⟨q, hq⟩ : ∃ q, l[i]? = some q := ⟨_, List.getElem?_eq_getElem o_⟩
 have hqm := List.mem_of_getElem? hq
 refine gp [[1],[907,43,3]] ?_; intro a S
 refine qY S (Ja S k_ rfl rfl ((M.arg hv).at_.row (i := i) (Jab hq) rfl)) ?_; intro a S
 refine qN S M Kg ?_; intro a w2 bQ S M hB
 refine go [[900,0],[4],[902,1,3],[902,0,3]] ?_; intro a w3 S M
 refine qK S rfl (Jd2 n q _) M ?_; intro a w4 S hK M
 refine gq [[0,1],[2],[940,16]] ?_ ?_
 ·intro a h16 S
  refine gp [[3,1],[8],[930]] ?_
  exact ⟨false, rfl, M.below, fun h => absurd h d_, fun h => by grind⟩
 intro a h16 S
 refine gp [[5],[901],[0,1],[2]] ?_; intro a S
 replace M := M.drp 0
 refine ⟨l.length - (i + 1), by omega, i + 1, by omega, rfl, fun y hy => ?_, S.sub _ rfl, M⟩
 grind [List.take_add_one]
end Go.Proofs.YtocppoflhllelaaGreat
