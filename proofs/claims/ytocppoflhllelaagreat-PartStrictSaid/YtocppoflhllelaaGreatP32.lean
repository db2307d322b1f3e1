/-
  What PartStrict rests on, part 32.
-/
import Derived.Test.YtocppoflhllelaaGreatP22
import Derived.Test.YtocppoflhllelaaGreatP31
namespace Go.Proofs.YtocppoflhllelaaGreat
open Go.RowKit Go.Sort
theorem Blk.at {w0 w : World} {b i : Nat} {c : Array Value} {t : TypeId} {v : Value} (h : Blk w0 b c t) (hb : Below w0.heap.size w0 w) (hc : c[i]? = some v) : w.cell? ⟨b, i, none⟩ = some v := by
 have h2 : Blk w b c t := (hb.block b h.lt).trans h
 rw [h2.cells]; exact hc
abbrev Yx (k : Int) (nm : Nm) (n e : Int) (y : Bool) : Msg := ⟨k, 0, 0, 0, 0, nm, n, 0, 0, ⟨0, 0, 0, 0, 0, 0, 0, 0⟩, e, y, 0, 0⟩
section
variable {wc w : World} {R : List Ent} {C : PxC} {X : Px} {er : Int}
def Px.say (X : Px) (self : Int) (m : Msg) : Px := { X with ml := X.ml ++ [({ m with frm := self, to := 0 }, [])] }
set_option maxHeartbeats 400000 in
theorem yD (W : PxM wc w R C X er) (hf : X.few) (m : Msg) : CT 129 #[pB C.b, .agg (m.cells Jz)] w fun e w' => e = .returned (.tuple #[]) ∧ PxM wc w' R C (X.say C.self m) er := by
 obtain ⟨D, es, hI, M⟩ := W
 obtain ⟨f1, f2, f3, f4, f5, f6⟩ := hf
 dsimp only [PxD.ents] at M
 refine qI Tryz.func129 22 ?_
 refine gp [[2]] ?_; intro a S
 refine qW_ S M ?_; intro a w1 bX S M hB
 refine go [[4,1,1,6,2,2],[900,0],[0,3],[900,0],[2],[910,8,12],[911,0,1,1,1,31,1,2]] ?_; intro a w4 S M
 refine kR 6 S rfl M (fun w M => Ja (cs := [_, _, _, _, _, _, _, _, _, _, _, _, _, _, _, _, _, _, _, _, _, _, _, _]) S k_ rfl rfl (M.cellsAt (k := 24) 0 rfl rfl)) ?_; intro a S
 refine k1_ 7 ?_
 refine JG (ps := [(0, .tmp 16)]) (e := 46) (sz := 24) (zl := cz0) (cs := (({ m with frm := C.self, to := 0 } : Msg).cells Jz).toList) S M rfl rfl k_ rfl k_ ?_; intro a w5 bZ S M hB
 refine kH_ hB ?_
 refine k1_ 8 ?_
 refine qP_ (e := 46) (sz := 24) (by_ := 152) (zc := cz0) S M 7 rfl rfl rfl (show Rd _ _ _ 24 _ 1 (({ m with frm := C.self, to := 0 } : Msg).cells Jz).toList from M.sliceAt 0 rfl (M.cellsAt (k := 24) 0 rfl rfl) rfl (Nat.le_refl _) (by grind [maxLen])) ?_; intro a w6 vA loA hiA S M
 refine kn_ ?_
 refine gp [[911,9,1,31,1]] ?_; intro a S
 refine k1_ 12 ?_
 obtain ⟨aA, cA, rfl, -, -⟩ := (M.readAll 0 rfl (by grind [maxLen])).form
 refine go [[900,3]] ?_; intro a w7 S M
 refine kn_ ?_
 refine gp [[1]] ?_; intro a S
 refine JD S rfl ?_
 replace M := (M.drp 1).drp 1
 replace M := M.od [5, 5, 5, 5, 5]
 have hM' := hI.ml.more (q := ({ m with frm := C.self, to := 0 }, [])) (lv := Jz) (.inl ⟨rfl, rfl⟩)
 refine ⟨rfl, { D with ma := aA, mc := cA, m1 := loA, m2 := hiA, mcs := _ }, es, ⟨hI.lv, hI.ov, hM', hI.el⟩, ?_⟩
 have e : (X.say C.self m).ml.length = X.ml.length + 1 := by grind [Px.say]
 dsimp only [PxD.ents, PxD.cells]
 rw [e]; exact M
theorem JdT (W : PxM wc w R C X er) (hf : X.few) : CT 78 #[pB C.b] w fun e w' => e = .returned (.tuple #[]) ∧ PxM wc w' R C (X.say C.self (Yx 11 ⟨0, 0, 0⟩ 0 0 false)) er := by
 refine qI Tryz.func78 5 ?_
 refine gp [[1,1]] ?_; intro a S
 refine qB_ cz8 cz0 S ?_; intro a S
 refine qD S rfl (yD W hf (Yx 11 ⟨0, 0, 0⟩ 0 0 false)) ?_
 rintro _ w1 ⟨rfl, W1⟩
 refine gp [[1]] ?_; intro a S
 refine JD S rfl ?_
 grind
theorem Jc0 (W : PxM wc w R C X er) (hf : X.few) (y : Bool) : CT 138 #[pB C.b, .bool y] w fun e w' => e = .returned (.tuple #[]) ∧ PxM wc w' R C (X.say C.self (Yx 5 C.m.name 0 0 y)) er := by
 skip
 obtain ⟨D, es, hI, M⟩ := W
 dsimp only [PxD.ents] at M
 refine qI Tryz.func138 13 ?_; intro a S
 skip
 refine gp [[1,1,1,1,7,6],[902,0,3],[0,1]] ?_; intro a S
 refine qB_ cz8 cz0 S ?_; intro a S
 refine qD S rfl (yD ⟨D, es, hI, M⟩ hf (Yx 5 C.m.name 0 0 y)) ?_
 rintro _ w1 ⟨rfl, W1⟩
 refine gp [[1]] ?_; intro a S
 refine JD S rfl ?_
 grind
theorem Jem (W : PxM wc w R C X er) (hf : X.few) : CT 137 #[pB C.b] w fun e w' => e = .returned (.tuple #[]) ∧ PxM wc w' R C (X.say C.self (Yx 3 C.m.name C.m.n 121 false)) er := by
 skip
 obtain ⟨D, es, hI, M⟩ := W
 dsimp only [PxD.ents] at M
 refine qI Tryz.func137 15 ?_; intro a S
 skip
 refine go [[910,12],[911,0,1,1,1,7,6],[912,5,0,3],[911,6,1,1,7,9,1]] ?_; intro a w1 S M
 refine Jj 11 S rfl (fun w => JW (ps := [(0, .const (.int .i8 3)), (5, .tmp 7), (6, .tmp 12), (10, .const (.int .i64 121))]) (pl := cz8) (z := cz0) (cs := [_, _, _, _, _, _, _, _, _, _, _, _, _, _, _, _, _, _, _, _, _, _, _, _]) S k_ rfl (rfl)) ?_; intro a S
 refine k1_ 12 ?_
 refine qD S rfl (yD ⟨D, es, hI, M⟩ hf (Yx 3 C.m.name C.m.n 121 false)) ?_
 rintro _ w2 ⟨rfl, W1⟩; refine rv_ ?_; intro a S
 refine kn_ ?_
 refine kE_ ?_
 refine JD S rfl ?_
 grind
end
theorem GE (w : World) : CT 66 #[Jz] w fun e w' => e = .returned Jz ∧ Below w.heap.size w w' := by
 have M := Mem.start w
 refine qI Tryz.func66 8 ?_
 refine gp [[2,1],[5,1]] ?_; intro a S
 refine qY S (ZJ (e := 108) S rfl ((Rd.nil 0 w.heap.size w 9)) k_) ?_
 refine gp [[2],[942,4],[3,1],[4],[930]] ?_
 exact ⟨rfl, M.below⟩
theorem JeY (m : Msg) (va : Option Addr) (vc : Nat) (w : World) (hv : Ws 0 w.heap.size w (.slice va 0 vc) []) : CT 134 #[.agg (m.cells (.slice va 0 vc))] w fun e w' => ∃ va' vc' lo hi, e = .returned (.agg (m.cells (.slice va' 0 vc'))) ∧ Mem w w' [Jd lo hi 108 9 (.slice va' 0 vc') 0 []] := by
 have M := Mem.start w
 refine qI Tryz.func134 8 ?_; intro a S
 refine nxD (qW_ S M ?_); intro a w1 bX S M hB
 refine qN S M cz3 ?_; intro a w2 bY S M hB
 refine gp [[4,24,2]] ?_; intro a S
 refine qD S rfl (ve _ [] _ (M.argW hv) d_) ?_
 rintro _ w3 ⟨v1, rfl, hF⟩; refine rv_ ?_; intro a S
 obtain ⟨a1, c1, rfl, -, -⟩ := (hF.rd0 (by grind)).form
 obtain ⟨lo1, hi1, -, M⟩ := M.pushFresh hF
 refine go [[0,24],[900,2],[4],[902,2,24],[900,1],[3]] ?_; intro a w5 S M
 refine Vb S rfl (rA_ 24 1 M) ?_
 replace M := (M.drp 2).drp 1
 exact ⟨a1, c1, lo1, hi1, rfl, M⟩
theorem JcC (m : Msg) (w : World) : CQ 134 #[.agg (m.cells Jz)] w (.agg (m.cells Jz)) := by
 have M := Mem.start w
 refine qI Tryz.func134 8 ?_; intro a S
 refine nxD (qW_ S M ?_); intro a w1 bX S M hB
 refine qN S M cz3 ?_; intro a w2 bY S M hB
 refine gp [[4,24,2]] ?_; intro a S
 refine qD S rfl (GE _) ?_
 rintro _ w3 ⟨rfl, hF⟩; refine rv_ ?_; intro a S
 replace M := M.grow hF
 refine go [[0,24],[900,1],[4],[902,1,24],[900,0],[3]] ?_; intro a w5 S M
 refine Vb S rfl (rA_ 24 0 M) ?_
 exact ⟨rfl, M.below⟩
def zD (a b : Nm) : Int := if a.less b = true then -1 else if b.less a = true then 1 else 0
theorem Jcu (a b : Nm) (w : World) : CQ 211 #[.agg a.cells, .agg b.cells] w (.int .i64 (zD a b)) := by
 have M := Mem.start w
 refine qI Tryz.func211 13 ?_; intro a S
 refine nxD (qW_ S M ?_); intro a w1 bX S M hB
 refine qW_ S M ?_; intro a w2 bY S M hB
 refine gp [[0,1],[6],[902,1,3],[902,0,3]] ?_; intro a S
 refine qK S rfl (Qg _ _ _) M ?_; intro a w3 S hK M
 refine gq [[0,1],[2],[940,5]] ?_ ?_
 ·intro a h5 S
  refine gp [[3,1],[5],[930]] ?_
  refine ⟨?_, M.below⟩; grind [zD]
 intro a h5 S
 refine gp [[3],[902,0,3],[902,1,3]] ?_; intro a S
 refine qK S rfl (Qg _ _ _) M ?_; intro a w4 S hK M
 refine gq [[0,1],[2],[940,9]] ?_ ?_
 ·intro a h9 S
  refine gp [[3,1],[5],[930]] ?_
  refine ⟨?_, M.below⟩; grind [zD]
 intro a h9 S
 refine gp [[6,1],[3],[930]] ?_
 refine ⟨?_, M.below⟩; grind [zD]
theorem Qt {a b : Nm} : zD a b < 0 ↔ a.less b = true := by grind [zD]
theorem Xt {a b : Nm} : zD a b = 0 ↔ a = b := by
 grind [zD, Nm.less_tri, Nm.less_irr]
theorem Xf (q : Lv) (lv : Value) (n : Nm) (w : World) : CQ 210 #[.agg (q.cellsL lv).toArray, .agg n.cells] w (.int .i64 (zD q.name n)) := by
 have M := Mem.start w
 refine qI Tryz.func210 9 ?_; intro a S
 refine nxD (qW_ S M ?_); intro a w1 bX S M hB
 refine qW_ S M ?_; intro a w2 bY S M hB
 refine gp [[0,1],[4,1],[902,1,3],[902,0,3]] ?_; intro a S
 refine qK S rfl (Jcu _ _ _) M ?_; intro a w3 S hK M
 refine gp [[0,1],[3],[930]] ?_
 exact ⟨rfl, M.below⟩
def SortL (l : List Lr) : Prop := (l.map fun q => q.1.name).Pairwise fun a b => a.less b = true
theorem SortL.less {l : List Lr} (h : SortL l) {i j : Nat} {p q : Lr} (hij : i < j) (hp : l[i]? = some p) (hq : l[j]? = some q) : p.1.name.less q.1.name = true := by
 obtain ⟨h1, rfl⟩ := List.getElem?_eq_some_iff.1 hp
 obtain ⟨h2, rfl⟩ := List.getElem?_eq_some_iff.1 hq
 have := List.pairwise_iff_getElem.1 h i j (by grind) (by grind) hij
 grind
def yo (l : List Lr) (n : Nm) (k : Nat) (y : Bool) : Prop :=
 k ≤ l.length ∧ ((y = true ∧ ∃ q, l[k]? = some q ∧ q.1.name = n) ∨ (y = false ∧ (∀ (i : Nat) (q : Lr), i < k → l[i]? = some q → q.1.name.less n = true) ∧ ∀ (i : Nat) (q : Lr), k ≤ i → l[i]? = some q → n.less q.1.name = true))
set_option maxHeartbeats 1000000 in
theorem Jax (va : Option Addr) (vc : Nat) (cs : List Value) (l : List Lr) (n : Nm) (w : World) (hv : RowC lvS cs 0 w.heap.size w (.slice va l.length vc) l) (hr : SortL l) (hl : l.length ≤ 1000) :
 CT 209 #[.slice va l.length vc, .agg n.cells, .func (.func 210) #[] #[]] w fun e w' => ∃ (k : Nat) (y : Bool), e = .returned (.tuple #[.int .i64 (k : Int), .bool y]) ∧ Below w.heap.size w w' ∧ yo l n k y := by
 have M := Mem.start w
 refine qI Tryz.func209 49 ?_; intro a S
 refine nxD (qW_ S M ?_); intro a w1 bN S M hB
 refine gp [[0,1,1],[4,1],[903,59],[0,1],[4,1,1,1],[4]] ?_; intro a S
 refine Jc (fun m a w' => ∃ (lo hi : Nat), lo ≤ hi ∧ hi ≤ l.length ∧ m = hi - lo ∧ Jk 49 a [(0, .slice va l.length vc), (2, .func (.func 210) #[] #[]), (4, p_ bN), (8, .int .i64 (l.length : Int)), (9, .int .i64 (lo : Int)), (10, .int .i64 (hi : Int))] ∧ Mem w w' [.blk bN n.cells 43] ∧ (∀ (i : Nat) (q : Lr), i < lo → l[i]? = some q → q.1.name.less n = true) ∧ (∀ (i : Nat) (q : Lr), hi ≤ i → l[i]? = some q → q.1.name.less n = false)) (l.length) ?_ ?_
 ·skip
  exact ⟨0, l.length, Nat.zero_le _, Nat.le_refl _, rfl, S.sub _ rfl, M, fun i q h => absurd h o_, fun i q h hq => absurd (List.getElem?_eq_some_iff.1 hq).1 o_⟩
 intro m a wl
 rintro ⟨lo, hi, hlh, hhl, rfl, S, M, hlow, hhigh⟩
 refine gq [[3,1,1,1],[2],[940,17]] ?_ ?_
 ·intro a h17 S
  refine gp [[6,1,1],[901]] ?_; intro a S
  refine qY S (U3 S rfl k_ k_ o_) ?_; intro a S
  refine qY S (Jio (k := 1) S rfl rfl o_) ?_; intro a S
  (refine qY S (zG S rfl k_ k_ o_) ?_); intro a S
  refine gp [[0,1],[3]] ?_; intro a S
  obtain ⟨mid, hmid, hm1, hm2⟩ : ∃ mid : Nat, ((lo : Int) + (hi : Int)) / 2 ^ 1 = (mid : Int) ∧ lo ≤ mid ∧ mid < hi := ⟨(lo + hi) / 2, by omega, by omega, by omega⟩
  rw [hmid] at S
  obtain ⟨q, hq⟩ : ∃ q, l[mid]? = some q := ⟨_, List.getElem?_eq_getElem o_⟩
  obtain ⟨xa, xc, hrow, hws⟩ := hv.sl hq
  refine go [[910],[911,0,1,1,1]] ?_; intro a w2 S M
  refine kR 3 S rfl M (fun w M => qX 59 54 S ((M.rows hv).1)) ?_; intro a S
  replace S := S.n_
  refine kR 4 S rfl M (fun w M => Ja S k_ rfl rfl ((M.rows hv).1.at_.row (i := mid) hrow rfl)) ?_
  refine gp [[912,5,0,3]] ?_; intro a S
  refine k1_ 6 ?_
  refine JR (xs := [.tmp 28, .tmp 29]) (fi := []) (ca := []) S (Ji Tryz.func210 d_ rfl) rfl rfl (rfl) rfl (Xf q.1 _ n _) ?_
  rintro _ w3 ⟨rfl, hK⟩; replace M := M.grow hK
  refine gp [[2]] ?_; intro a S
  refine ⟨fun _ => hK, ?_⟩
  refine Jj 7 S rfl (fun w => J2 S rfl rfl rfl) ?_
  refine gq [[2],[943,31]] ?_ ?_
  ·intro a h31 S
   refine gp [[2,1,1],[3]] ?_; intro a S
   (have hc0 : q.1.name.less n = false := by
     cases hc : q.1.name.less n
     ·rfl
     ·have := Qt.2 hc; omega
    refine ⟨mid - lo, by omega, lo, mid, by omega, by omega, rfl, S.sub _ rfl, M, hlow, fun i p hi' hp => ?_⟩
    rcases Nat.lt_or_ge mid i with h | h
    ·cases hc : p.1.name.less n
     ·rfl
     ·rw [Nm.less_trans (hr.less h hq hp) hc] at hc0; cases hc0
    grind)
  intro a h31 S
  refine gp [[2,1],[901],[0,1],[3]] ?_; intro a S
  (refine ⟨hi - (mid + 1), by omega, mid + 1, hi, by omega, hhl, rfl, ?_, M, fun i p hi' hp => ?_, hhigh⟩
   ·rw [show ((mid + 1 : Nat) : Int) = (mid : Int) + 1 by omega]; exact S.sub _ rfl
   ·rcases Nat.lt_or_ge i mid with h | h
    ·exact Nm.less_trans (hr.less h hp hq) (Qt.1 h31)
    ·obtain rfl : i = mid := by omega
     rw [hq] at hp; obtain rfl := Option.some.inj hp; exact Qt.1 h31)
 intro a h17 S
 refine gp [[7]] ?_; intro a S
 obtain rfl : lo = hi := by omega
 obtain ⟨q, hq⟩ : ∃ q, lo < l.length → l[lo]? = some q := by
  rcases Nat.lt_or_ge lo l.length with h | h
  ·exact ⟨_, fun _ => List.getElem?_eq_getElem h⟩
  ·exact ⟨(⟨n, 0, false, vX, vX, none, 0⟩, []), fun h' => absurd h' o_⟩
 obtain ⟨xa, xc, hrow⟩ : ∃ xa xc, lo < l.length → (cs.drop (lo * 54)).take 54 = q.1.cellsL (.slice xa q.2.length xc) := by
  rcases Nat.lt_or_ge lo l.length with h | h
  ·obtain ⟨xa, xc, e, -⟩ := hv.sl (hq h); exact ⟨xa, xc, fun _ => e⟩
  ·exact ⟨none, 0, fun h' => absurd h' o_⟩
 refine go [[910],[911,0,1,1,1]] ?_; intro a w4 S M
 refine Jj 3 S rfl (fun w => J2 S rfl rfl rfl) ?_
 refine gq [[911,4,1],[943,39]] ?_ ?_
 ·intro a h39 S
  refine gp [[911,5,0,0,0,0,0,0,0,0]] ?_; intro a S
  refine Jj 13 S rfl (fun w => Y0 S rfl rfl) ?_
  refine gp [[911,14,1,1],[3],[931]] ?_
  exact ⟨lo, false, rfl, M.below, hhl, .inr ⟨rfl, hlow, fun i p hi' hp => absurd (List.getElem?_eq_some_iff.1 hp).1 o_⟩⟩
 intro a h39 S
 refine gp [[911,5,1,1,1]] ?_; intro a S
 refine kR 8 S rfl M (fun w M => qX 59 54 S ((M.rows hv).1)) ?_; intro a S
 replace S := S.n_
 refine kR 9 S rfl M (fun w M => Ja S k_ rfl rfl ((M.rows hv).1.at_.row (i := lo) (hrow o_) rfl)) ?_
 refine gp [[912,10,0,3]] ?_; intro a S
 refine k1_ 11 ?_
 refine JR (xs := [.tmp 44, .tmp 45]) (fi := []) (ca := []) S (Ji Tryz.func210 d_ rfl) rfl rfl (rfl) rfl (Xf q.1 _ n _) ?_
 rintro _ w5 ⟨rfl, hK⟩; replace M := M.grow hK
 refine gp [[2]] ?_; intro a S
 refine ⟨fun _ => hK, ?_⟩
 refine Jj 12 S rfl (fun w => J2 S rfl rfl rfl) ?_; intro a S
 refine Jj 13 S rfl (fun w => Zq S rfl rfl) ?_
 refine gp [[911,14,1,1],[3],[931]] ?_
 (refine ⟨lo, _, rfl, M.below, hhl, ?_⟩
  have hlt : lo < l.length := by omega
  have h3 := hhigh lo q (Nat.le_refl _) (hq hlt)
  cases hc : (zD q.1.name n == 0)
  ·refine .inr ⟨rfl, hlow, fun i p hi' hp => ?_⟩
   have h5 : n.less q.1.name = true := by
    cases hc2 : n.less q.1.name
    ·rw [Xt.2 (Nm.less_tri h3 hc2)] at hc; cases hc
    ·rfl
   rcases Nat.lt_or_ge lo i with h2 | h2
   ·exact Nm.less_trans h5 (hr.less h2 (hq hlt) hp)
   ·obtain rfl : i = lo := by omega
    rw [hq hlt] at hp; obtain rfl := Option.some.inj hp; exact h5
  ·exact .inl ⟨rfl, q, hq hlt, Xt.1 (by simpa using hc)⟩)
section
variable {wc w : World} {R : List Ent} {C : PxC} {X : Px} {er : Int}
theorem yL (W : PxM wc w R C X er) (hr : SortL X.lv) (hf : X.few) (n : Nm) : CT 130 #[pB C.b, .agg n.cells] w fun e w' => ∃ (k : Nat) (y : Bool), e = .returned (.tuple #[.int .i64 (k : Int), .bool y]) ∧ Below w.heap.size w w' ∧ yo X.lv n k y := by
 obtain ⟨D, es, hI, M⟩ := W
 have hl := hf.lv
 have hv := hI.live M hf
 have hMb := M.blk 0 rfl
 clear M
 have M := Mem.start w
 refine qI Tryz.func130 15 ?_; intro a S
 refine nxD (qW_ S M ?_); intro a w1 bN S M hB
 refine go [[0,1,1],[3],[910],[911,0,1,1,1,3]] ?_; intro a w2 S M
 refine kR 4 S rfl M (fun w M => Jf S k_ rfl (hMb.at M.below rfl)) ?_
 refine gp [[912,5,0,3]] ?_; intro a S
 refine k1_ 6 ?_
 refine qD S rfl (Jax _ _ D.lcs X.lv n _ (M.rowsW hv) hr hl) ?_
 rintro _ w3 ⟨k, y, rfl, hK, hF⟩; replace M := M.grow hK
 refine gp [[2]] ?_; intro a S
 refine ⟨fun _ => hK, ?_⟩
 refine gp [[911,7,1,1,1,1],[3],[931]] ?_
 exact ⟨k, y, rfl, M.below, hF⟩
theorem JdW (x : Nm × Int) (n : Nm) (b : Nat) (w : World) (hN : Blk w b n.cells 43) : CQ 213 #[.agg #[.int .i64 x.1.stamp, .int .i64 x.1.inc, .int .i64 x.1.try_, .int .i64 x.2], pB b] w (.bool (x.1.eqb n)) := by
 have M := Mem.start w
 refine qI Tryz.func213 8 ?_; intro a S
 refine nxD (qW_ S M ?_); intro a w1 bX S M hB
 refine gp [[0,1],[4,1],[902,0,3]] ?_; intro a S
 refine qY S (Ja S k_ rfl rfl (show CellsAt _ b 0 [.int .i64 n.stamp, .int .i64 n.inc, .int .i64 n.try_] from Blk.cellsAt (o := 0) (k := 3) ((M.below.block b hN.lt).trans hN) rfl)) ?_; intro a S
 refine qY S (VI k_ S rfl rfl (fun w => VG 9998 x.1 n w)) ?_
 refine gp [[0,1],[3],[930]] ?_
 grind
def j1 (l : List (Nm × Int)) (n : Nm) : Option Int := (l.find? fun x => x.1.eqb n).map (·.2)
set_option maxHeartbeats 400000 in
theorem JbT (va : Option Addr) (vc : Nat) (cs : List Value) (l : List (Nm × Int)) (n : Nm) (b : Nat) (w : World) (hv : RowC doS cs 0 w.heap.size w (.slice va l.length vc) l) (hN : Blk w b n.cells 43) (hl : l.length ≤ 1000) :
 CT 212 #[.slice va l.length vc, .func (.func 213) #[] #[pB b]] w fun e w' => ∃ j : Int, e = .returned (.int .i64 j) ∧ Below w.heap.size w w' ∧ ((∃ (k : Nat) (q : Nm × Int), j = (k : Int) ∧ l[k]? = some q ∧ j1 l n = some q.2) ∨ (j = -1 ∧ j1 l n = none)) := by
 have M := Mem.start w
 refine qI Tryz.func212 19 ?_
 refine gp [[2,1],[5,1],[903,160],[0,1],[3]] ?_; intro a S
 refine Jc (fun m a w' => ∃ (k : Nat), k ≤ l.length ∧ m = l.length - k ∧ Jk 19 a [(0, .slice va l.length vc), (1, .func (.func 213) #[] #[pB b]), (7, .int .i64 (l.length : Int)), (8, .int .i64 (k : Int))] ∧ Mem w w' [] ∧ j1 l n = j1 (l.drop k) n) (l.length) ?_ ?_
 ·skip
  exact ⟨0, Nat.zero_le _, rfl, S.sub _ rfl, M, rfl⟩
 intro m a wl
 rintro ⟨k, hk, rfl, S, M, hpre⟩
 refine gq [[2,1],[3],[943,9]] ?_ ?_
 ·intro a h9 S
  refine gp [[8,1],[3],[930]] ?_
  obtain rfl : k = l.length := by omega
  exact ⟨-1, rfl, M.below, .inr ⟨rfl, by rw [hpre, List.drop_length]; rfl⟩⟩
 intro a h9 S
 refine gp [[7,1,1],[3]] ?_; intro a S
 obtain ⟨q, hq⟩ : ∃ q, l[k]? = some q := ⟨_, List.getElem?_eq_getElem o_⟩
 obtain ⟨xa, xc, hrow, -⟩ := hv.sl hq
 rw [jC hq] at hpre
 refine gp [[1,1,1,1]] ?_; intro a S
 refine qY S (qX 160 4 S ((M.rows hv).1)) ?_; intro a S
 replace S := S.n_
 refine qY S (Ja S k_ rfl rfl ((M.rows hv).1.at_.row (i := k) hrow rfl)) ?_; intro a S
 refine JR (xs := [.tmp 15]) (fi := []) (ca := [pB b]) S (Ji Tryz.func213 d_ rfl) rfl rfl (rfl) rfl (JdW q n b _ ((M.below.block b hN.lt).trans hN)) ?_
 rintro _ w1 ⟨rfl, hK⟩; replace M := M.grow hK
 refine gp [[2]] ?_; intro a S
 refine Js (t := 16) S rfl ?_ ?_
 ·intro h16 S
  refine gp [[3,1,1],[8],[930]] ?_
  exact ⟨(k : Int), rfl, M.below, .inl ⟨k, q, rfl, hq, by grind [j1]⟩⟩
 intro h16 S
 refine gp [[5],[901],[0,1],[2]] ?_; intro a S
 refine ⟨l.length - (k + 1), by omega, k + 1, by omega, rfl, S.sub _ rfl, M, ?_⟩
 grind [j1]
theorem Qb (W : PxM wc w R C X er) (hf : X.few) (n : Nm) : CQ 131 #[pB C.b, .agg n.cells] w (.tuple #[.int .i64 ((j1 X.ov n).getD 0), .bool (j1 X.ov n).isSome]) := by
 obtain ⟨D, es, hI, M⟩ := W
 have hl := hf.ov
 have hv := hI.over M hf
 have hMb := M.blk 0 rfl
 clear M
 have M := Mem.start w
 refine qI Tryz.func131 25 ?_; intro a S
 refine nxD (qW_ S M ?_); intro a w1 bN S M hB
 refine gp [[0,1,1],[4,1,1,1,4]] ?_; intro a S
 refine qY S (Jf S k_ rfl (hMb.at M.below rfl)) ?_; intro a S
 refine qY S (Jx (fs := []) (cs := [.tmp 3]) S rfl rfl) ?_; intro a S
 refine qD S rfl (JbT _ _ D.ocs X.ov n bN _ (M.rowsW hv) (M.blk 0 rfl) hl) ?_
 rintro _ w2 ⟨j, rfl, hK, hj⟩; replace M := M.grow hK
 refine gq [[0,1],[5,1,1],[2],[940,15]] ?_ ?_
 ·intro a h15 S
  refine gp [[3,1,1],[4],[931]] ?_
  rcases hj with ⟨k, q, rfl, -⟩ | ⟨rfl, ho⟩
  ·omega
  ·rw [ho]; exact ⟨rfl, M.below⟩
 intro a h15 S
 refine gp [[4]] ?_; intro a S
 obtain ⟨k, q, rfl, hq, ho⟩ : ∃ (k : Nat) (q : Nm × Int), j = (k : Int) ∧ X.ov[k]? = some q ∧ j1 X.ov n = some q.2 := by
  grind
 obtain ⟨xa, xc, hrow, -⟩ := hv.sl hq
 have hk9 := (List.getElem?_eq_some_iff.1 hq).1
 refine gp [[1,1,1,1,4]] ?_; intro a S
 refine qY S (Jf S k_ rfl (hMb.at M.below rfl)) ?_
 refine gp [[0,1]] ?_; intro a S
 refine qY S (qX 160 4 S ((M.rows hv).1)) ?_; intro a S
 replace S := S.n_
 refine qG [4] S ?_; intro a S
 refine qY S (Jf S k_ rfl ((((M.rows hv).1.at_.row (i := k) hrow rfl) 3 (by grind)).trans rfl)) ?_
 refine gp [[0,1,1],[3],[931]] ?_
 rw [ho]; exact ⟨rfl, M.below⟩
end
def Vg (ps : Pl) (n : Nm) : Bool := ps.any fun q => q.1.name.eqb n
theorem Ew (x : Pr) (lv : Value) (n : Nm) (b : Nat) (w : World) (hN : Blk w b n.cells 43) : CQ 215 #[.agg (x.cellsL lv).toArray, pB b] w (.bool (x.name.eqb n)) := by
 have M := Mem.start w
 refine qI Tryz.func215 8 ?_; intro a S
 refine nxD (qW_ S M ?_); intro a w1 bX S M hB
 refine gp [[0,1],[4,1],[902,0,3]] ?_; intro a S
 refine qY S (Ja S k_ rfl rfl (show CellsAt _ b 0 [.int .i64 n.stamp, .int .i64 n.inc, .int .i64 n.try_] from Blk.cellsAt (o := 0) (k := 3) ((M.below.block b hN.lt).trans hN) rfl)) ?_; intro a S
 refine qY S (VI k_ S rfl rfl (fun w => VG 9998 x.name n w)) ?_
 refine gp [[0,1],[3],[930]] ?_
 grind
set_option maxHeartbeats 400000 in
theorem JbS (va : Option Addr) (vc : Nat) (cs : List Value) (l : Pl) (n : Nm) (b : Nat) (w : World) (hv : PrsC cs 0 w.heap.size w (.slice va l.length vc) l) (hN : Blk w b n.cells 43) (hl : l.length ≤ 1000) :
 CT 275 #[.slice va l.length vc, .func (.func 215) #[] #[pB b]] w fun e w' => ∃ j : Int, e = .returned (.int .i64 j) ∧ Below w.heap.size w w' ∧ (0 ≤ j ↔ Vg l n = true) := by
 have M := Mem.start w
 refine qI Tryz.func275 19 ?_
 refine gp [[2,1],[5,1],[903,57],[0,1],[3]] ?_; intro a S
 refine Jc (fun m a w' => ∃ (k : Nat), k ≤ l.length ∧ m = l.length - k ∧ Jk 19 a [(0, .slice va l.length vc), (1, .func (.func 215) #[] #[pB b]), (7, .int .i64 (l.length : Int)), (8, .int .i64 (k : Int))] ∧ Mem w w' [] ∧ Vg l n = Vg (l.drop k) n) (l.length) ?_ ?_
 ·skip
  exact ⟨0, Nat.zero_le _, rfl, S.sub _ rfl, M, rfl⟩
 intro m a wl
 rintro ⟨k, hk, rfl, S, M, hpre⟩
 refine gq [[2,1],[3],[943,9]] ?_ ?_
 ·intro a h9 S
  refine gp [[8,1],[3],[930]] ?_
  obtain rfl : k = l.length := by omega
  exact ⟨-1, rfl, M.below, by grind [Vg]⟩
 intro a h9 S
 refine gp [[7,1,1],[3]] ?_; intro a S
 obtain ⟨q, hq⟩ : ∃ q, l[k]? = some q := ⟨_, List.getElem?_eq_getElem o_⟩
 obtain ⟨xa, xc, hrow, -⟩ := hv.sl hq
 rw [jC hq] at hpre
 refine gp [[1,1,1,1]] ?_; intro a S
 refine qY S (qX 57 6 S ((M.prs hv).1)) ?_; intro a S
 replace S := S.n_
 refine qY S (Ja S k_ rfl rfl ((M.prs hv).1.at_.row (i := k) hrow rfl)) ?_; intro a S
 refine JR (xs := [.tmp 15]) (fi := []) (ca := [pB b]) S (Ji Tryz.func215 d_ rfl) rfl rfl (rfl) rfl (Ew q.1 _ n b _ ((M.below.block b hN.lt).trans hN)) ?_
 rintro _ w1 ⟨rfl, hK⟩; replace M := M.grow hK
 refine gp [[2]] ?_; intro a S
 refine Js (t := 16) S rfl ?_ ?_
 ·intro h16 S
  refine gp [[3,1,1],[8],[930]] ?_
  exact ⟨(k : Int), rfl, M.below, by grind [Vg]⟩
 intro h16 S
 refine gp [[5],[901],[0,1],[2]] ?_; intro a S
 refine ⟨l.length - (k + 1), by omega, k + 1, by omega, rfl, S.sub _ rfl, M, ?_⟩
 grind [Vg]
theorem XG (va : Option Addr) (vc : Nat) (cs : List Value) (l : Pl) (n : Nm) (b : Nat) (w : World) (hv : PrsC cs 0 w.heap.size w (.slice va l.length vc) l) (hN : Blk w b n.cells 43) (hl : l.length ≤ 1000) :
 CQ 214 #[.slice va l.length vc, .func (.func 215) #[] #[pB b]] w (.bool (Vg l n)) := by
 have M := Mem.start w
 refine qI Tryz.func214 9 ?_
 refine gp [[2,1],[4,1,1]] ?_; intro a S
 refine qD S rfl (JbS va vc cs l n b _ ((M.prs hv).wide (Nat.le_refl _) M.below.size) ((M.below.block b hN.lt).trans hN) hl) ?_
 rintro _ w1 ⟨j, rfl, hK, hj⟩; replace M := M.grow hK
 refine gp [[0,1,1],[3],[930]] ?_
 grind
def PxS (wc w : World) (A : List Ent) (C : PxC) (X : Px) (er : Int) (bd : Nat) (s : Sh) (S : DS) : Prop := ∃ D es, PxI D X es ∧ ShM wc w (D.ents X C er (es ++ A)) C.bs bd s S
abbrev stE (b bd : Nat) (s : Sh) (da : Option Addr) (dc lo hi : Nat) (cs : List Value) (Z : List Ent) : List Ent := shE b bd s (.slice da s.ps.length dc) :: Jd lo hi 57 6 (.slice da s.ps.length dc) s.ps.length cs :: Z
theorem Gc {α : Type} {P es L Z : List α} : ((P ++ (es ++ L)) ++ Z).Perm (L ++ (P ++ (es ++ Z))) := by
 rw [← List.append_assoc P es L, ← List.append_assoc P es Z, ← List.append_assoc L]
 exact List.perm_append_comm.append_right Z
theorem PxD.ents_app (D : PxD) (X : Px) (C : PxC) (er : Int) (R R' : List Ent) : D.ents X C er (R ++ R') = D.ents X C er R ++ R' := rfl
section
variable {wc w : World} {A L : List Ent} {C : PxC} {X : Px} {er : Int} {bd : Nat} {s : Sh} {S : DS}
theorem PxS.openL (h : PxS wc w (L ++ A) C X er bd s S) : ∃ (da : Option Addr) (dc lo hi : Nat) (cs : List Value) (es' E : List Ent) (D : PxD) (es : List Ent), DkE bd S E ∧ PrBk cs s.ps es' ∧ PxI D X es ∧
 Mem wc w (L ++ D.ents X C er (es ++ stE C.bs bd s da dc lo hi cs (es' ++ (A ++ E)))) := by
 obtain ⟨D, es, hI, hM⟩ := h
 rw [← List.append_assoc, PxD.ents_app] at hM
 obtain ⟨da, dc, lo, hi, cs, es', E, hE, hB, M⟩ := hM.open
 exact ⟨da, dc, lo, hi, cs, es', E, D, es, hE, hB, hI, M.perm (Gc (P := D.ents X C er []))⟩
theorem PxS.closeL {da : Option Addr} {dc lo hi : Nat} {cs : List Value} {es' E : List Ent} {D : PxD} {es : List Ent} (hE : DkE bd S E) (hB : PrBk cs s.ps es') (hI : PxI D X es)
 (M : Mem wc w (L ++ D.ents X C er (es ++ stE C.bs bd s da dc lo hi cs (es' ++ (A ++ E))))) : PxS wc w (L ++ A) C X er bd s S := by
 refine ⟨D, es, hI, ?_⟩
 rw [← List.append_assoc, PxD.ents_app]
 exact ShM.close hE hB (M.perm (Gc (P := D.ents X C er [])).symm)
theorem PxS.call {X' : Px} {er' : Int} {f : Nat} {args : Array Value} {v : Value} (W : PxS wc w A C X er bd s S) (h : ∀ R, PxM wc w R C X er → CT f args w fun e w' => e = .returned v ∧ PxM wc w' R C X' er') :
 CT f args w fun e w' => e = .returned v ∧ PxS wc w' A C X' er' bd s S := by
 obtain ⟨da, dc, lo, hi, cs, es', E, D, es, hE, hB, hI, M⟩ := PxS.openL (L := []) W
 exact (h _ ⟨D, es, hI, M⟩).mono fun e w' ⟨he, D', es2, hI2, M2⟩ => ⟨he, PxS.closeL (L := []) hE hB hI2 M2⟩
theorem Mem.mid {w0 w : World} {e : Ent} (P Z : List Ent) (M : Mem w0 w (P ++ e :: Z)) : Mem w0 w (e :: (P ++ Z)) := M.perm List.perm_middle
theorem Mem.midB {w0 w : World} {e : Ent} (P Z : List Ent) (M : Mem w0 w (e :: (P ++ Z))) : Mem w0 w (P ++ e :: Z) := M.perm List.perm_middle.symm
set_option maxHeartbeats 400000 in
theorem zt {N : Int} (W : PxS wc w A C X er bd s S) (hI : ShI S s N) (n : Nm) : CT 132 #[pB C.b, .agg n.cells] w fun e w' => e = .returned (.bool (Vg s.ps n)) ∧ PxS wc w' A C X er bd s S := by
 obtain ⟨da, dc, lo, hi, cs, es', E, D, es, hE, hQ, hI9, M⟩ := PxS.openL (L := []) W
 have h8 := hI.w8
 have hl := hI.hl
 dsimp only [PxD.ents] at M
 refine qI Tryz.func132 12 ?_
 refine gp [[2]] ?_; intro a S
 refine qW_ S M ?_; intro a w1 bN S M hB
 refine gp [[0,1],[4,1,1,5,2]] ?_; intro a S
 have M1 : Mem wc _ (shE C.bs bd s (.slice da s.ps.length dc) :: (.blk bN n.cells 43 :: D.ents X C er (es ++ (Jd lo hi 57 6 (.slice da s.ps.length dc) s.ps.length cs :: (es' ++ (A ++ E)))))) := M.mid (.blk bN n.cells 43 :: D.ents X C er es) (Jd lo hi 57 6 (.slice da s.ps.length dc) s.ps.length cs :: (es' ++ (A ++ E)))
 refine qD S rfl (KU M1 (fun W pre M => (hQ.prs (lo := lo) (hi := hi) M (by simp) (fun e he => by grind) (by grind [maxLen])).wide (Nat.zero_le _) (Nat.le_refl _)) hQ hl o_) ?_
 rintro _ w2 ⟨ra, rc, lo2, hi2, cs2, es2, rfl, hB2, M2⟩; refine rv_ ?_; intro a S
 refine qY S (Jx (fs := []) (cs := [.tmp 3]) S rfl rfl) ?_; intro a S
 refine qD S rfl (XG ra rc cs2 s.ps n bN _ ((hB2.prs (lo := lo2) (hi := hi2) M2 (.head _) (fun e he => by grind) (by grind [maxLen])).wide (Nat.zero_le _) (Nat.le_refl _)) (M2.ok (.blk bN n.cells 43) (by simp)) o_) ?_
 rintro _ w3 ⟨rfl, hK⟩; refine rv_ ?_; intro a S
 refine qG [1] S ?_
 refine gp [[3],[930]] ?_
 refine ⟨rfl, PxS.closeL (L := []) (da := da) (dc := dc) (lo := lo) (hi := hi) (cs := cs) hE hQ hI9 ?_⟩
 have M3 := (M2.grow hK).sub (.cons _ ((List.sublist_append_right es2 _).trans (.refl _)))
 have M4 := M3.midB (.blk bN n.cells 43 :: D.ents X C er es) (Jd lo hi 57 6 (.slice da s.ps.length dc) s.ps.length cs :: (es' ++ (A ++ E)))
 exact M4.sub (.cons _ (.refl _))
end
abbrev zLv : Lv := ⟨⟨0, 0, 0⟩, 0, false, vX, vX, none, 0⟩
abbrev Dj : List Value := zLv.cellsL Jz
theorem Jjs {cs more : List Value} {m c k : Nat} (hl : cs.length = m * 54) (_ : (cs ++ more).length = c * 54) (hk : k < m) :
 ((cs ++ more).take (k * 54) ++ cs.drop ((k + 1) * 54) ++ (cs ++ more).drop (k * 54 + (cs.drop ((k + 1) * 54)).length)) = (cs.take (k * 54) ++ cs.drop ((k + 1) * 54)) ++ (cs ++ more).drop ((m - 1) * 54) := by
 grind
set_option maxHeartbeats 1000000 in
theorem Jaq {wc w : World} {H : List Ent} {g m c k : Nat} {cs more : List Value} (M : Mem wc w (.blk g (cs ++ more).toArray 59 :: H)) (hl : cs.length = m * 54) (h1 : Jp (cs.drop ((k + 1) * 54)) = true) (hcs : (cs ++ more).length = c * 54) (hmc : m ≤ c) (hc : c ≤ maxLen) (hk : k < m) :
 CT 222 #[.slice (some ⟨g, 0, none⟩) m c, .int .i64 (k : Int), .int .i64 ((k : Int) + 1)] w fun e w' => e = .returned (.slice (some ⟨g, 0, none⟩) (m - 1) c) ∧
  ∃ more', ((cs.take (k * 54) ++ cs.drop ((k + 1) * 54)) ++ more').length = c * 54 ∧ Mem wc w' (.blk g ((cs.take (k * 54) ++ cs.drop ((k + 1) * 54)) ++ more').toArray 59 :: H) := by
 refine qI Tryz.func222 33 ?_
 refine gp [[2,1],[4,1,1,1,1],[903,59]] ?_; intro a S
 refine qY S (KY (e := 59) (sz := 54) S k_ rfl rfl rfl rfl o_) ?_
 refine go [[5,1,1,1],[2],[941,16],[5,1],[903,59],[0,1],[3],[910,6],[911,0,1,1]] ?_; intro a w1 S M
 refine Jj 2 S rfl (fun w => ZI (e := 59) (sz := 54) S k_ rfl rfl o_) ?_
 refine gp [[911,3,1,1]] ?_; intro a S
 refine Jj 5 S rfl (fun w => Vr (e := 59) (sz := 54) S k_ rfl rfl o_) ?_; intro a S
 refine k1_ 6 ?_
 simp only [Int.toNat_natCast, show ((k : Int) + 1).toNat = k + 1 by omega] at S
 have hR : Rd g (g + 1) w1 54 (.slice (some ⟨g, 0, none⟩) m c) m cs := Rd.of_blk (M.blk 0 rfl) hl hmc hc (by grind)
 have hcell : CellsAt w1 g ((k + 1) * 54) (cs.drop ((k + 1) * 54)) := fun j hj => by
  rw [List.length_drop] at hj
  have := hR.at_ ((k + 1) * 54 + j) o_
  grind [adr]
 obtain ⟨o2, ho2, hcell2⟩ : ∃ o2, Yv (some ⟨g, 0, none⟩) (k + 1) c 54 = some ⟨g, o2, none⟩ ∧ CellsAt w1 g o2 (cs.drop ((k + 1) * 54)) := by
  rcases Nat.lt_or_ge (k + 1) c with h | h
  ·grind [Y5]
  ·refine ⟨0, by grind [Yv], ?_⟩
   rw [List.drop_of_length_le o_]; intro j hj; grind
 rw [ho2] at S
 refine KL (e := 59) (sz := 54) (zc := Dj) (by_ := 368) (news := cs.drop ((k + 1) * 54)) S M 0 rfl rfl k_ rfl rfl rfl hcell2 (by grind) h1 o_ hcs ?_; intro a wA S M
 rw [Jjs hl hcs hk, show k + (m - (k + 1)) = m - 1 by omega] at *
 simp only [List.set_cons_zero] at M
 refine kn_ ?_
 refine gp [[911,7,1],[3]] ?_; intro a S
 have hXl : ((cs.take (k * 54) ++ cs.drop ((k + 1) * 54)) ++ (cs ++ more).drop ((m - 1) * 54)).length = c * 54 := by
  grind
 refine gp [[1,1,1],[903,59],[0,1]] ?_; intro a S
 refine qY S (KZ (e := 59) (sz := 54) S k_ rfl rfl rfl o_) ?_; intro a S
 simp only [Int.toNat_natCast] at S
 rw [Y5 o_, show m - (m - 1) = 1 by omega] at S
 refine QK (e := 59) (sz := 54) (zc := Dj) (by_ := 368) S M 0 rfl k_ rfl rfl rfl (by rw [hXl]; show _ + 54 ≤ _; omega) ?_; intro wB M
 simp only [List.set_cons_zero] at M
 refine gp [[4,1,1],[3],[930]] ?_
 refine ⟨rfl, (Jt ((cs.take (k * 54) ++ cs.drop ((k + 1) * 54)) ++ (cs ++ more).drop ((m - 1) * 54)) ((m - 1) * 54) Dj).drop ((m - 1) * 54), ?_, ?_⟩
 ·grind [Vu]
 ·have hXm : (cs.take (k * 54) ++ cs.drop ((k + 1) * 54)).length = (m - 1) * 54 := by simp only [List.length_append, List.length_take, List.length_drop]; omega
  have e := zY (us := Dj) (l := (cs.take (k * 54) ++ cs.drop ((k + 1) * 54)) ++ (cs ++ more).drop ((m - 1) * 54)) (o := (m - 1) * 54) (i := 0) (k := (m - 1) * 54) (by rw [hXl]; show _ + 54 ≤ _; omega) o_
  rw [List.drop_zero, List.drop_zero] at e
  have e2 : (cs.take (k * 54) ++ cs.drop ((k + 1) * 54) ++ (cs ++ more).drop ((m - 1) * 54)).take ((m - 1) * 54) = cs.take (k * 54) ++ cs.drop ((k + 1) * 54) := by rw [← hXm, List.take_left]
  grind [List.take_append_drop]
set_option maxHeartbeats 2000000 in
theorem Jag {wc w : World} {H : List Ent} {lo hi : Nat} {la : Option Addr} {lc i bZ m : Nat} {P Q us : List Value} (M : Mem wc w (Jd lo hi 59 54 (.slice la m lc) m (P ++ Q) :: .blk bZ us.toArray 59 :: H)) (hAl : P.length = i * 54) (hCl : Q.length = (m - i) * 54) (hxl : us.length = 54) (h1 : Jp Q = true) (hu : Jp us = true) (hl : m ≤ 1000000) (hi' : i ≤ m) :
 CT 133 #[.slice la m lc, .int .i64 (i : Int), .slice (some ⟨bZ, 0, none⟩) 1 1] w fun e w' => ∃ la' lc' lo' hi', e = .returned (.slice la' (m + 1) lc') ∧ Mem wc w' (Jd lo' hi' 59 54 (.slice la' (m + 1) lc') (m + 1) (P ++ (us ++ Q)) :: .blk bZ us.toArray 59 :: H) := by
 have hcl : (P ++ Q).length = m * 54 := by grind
 have hZc : Vs us.toArray.toList 0 54 = some us := by grind [JC]
 refine qI Tryz.func133 95 ?_
 refine gp [[2,1],[4,1,1]] ?_; intro a S
 refine qY S (jH (e := 59) (sz := 54) S k_ rfl (M.readAll 0 rfl (by grind [maxLen])) rfl o_) ?_
 refine gq [[4,1],[903,59],[0,1],[5,1,1],[2],[941,16],[5,1],[903,59],[0,1],[5,1,1,1],[2],[940,22]] ?_ ?_
 ·intro a h22 S
  refine gp [[3,1,1]] ?_; intro a S
  refine JI (e := 59) (sz := 54) (by_ := 368) (zc := cz1) S M 0 rfl rfl k_ rfl d_ rfl rfl rfl (show Rd _ _ _ 54 _ 1 us from M.sliceAt 1 rfl (M.cellsAt (k := 54) 1 rfl hZc) (by rw [hxl]) (Nat.le_refl _) (by grind [maxLen])) (hu) o_ (by grind [maxLen]) ?_; intro a w1 vA loA hiA S M
  obtain ⟨aA, cA, rfl, -, -⟩ := (M.readAll 0 rfl (by grind [maxLen])).form
  refine qY S (JP S rfl) ?_
  refine gp [[4],[930]] ?_
  obtain rfl : i = m := by omega
  grind
 intro a h22 S
 refine gp [[5]] ?_; intro a S
 have hlt : i < m := by omega
 obtain ⟨gb, cap, more, hv, hc1, hc2, hc3, M1⟩ := M.ofRow o_
 clear M; have M := M1; clear M1
 injection hv with e1 e2 e3
 subst e1 e3
 have hne : bZ ≠ gb := by
  have := (List.pairwise_cons.1 M.apart).1 _ (List.mem_cons_self ..)
  rcases this with h | h <;> simp only [Ent.lo, Ent.hi] at h <;> omega
 have hlen : ((P ++ Q) ++ more).length = lc * 54 := hc3
 have hclA : ∀ (W : World), Blk W gb ((P ++ Q) ++ more).toArray 59 → CellsAt W gb (i * 54) (Q) := fun W B => by
  have := (Rd.of_blk B (hcl) hc1 hc2 (by grind)).at_
  simp only [adr] at this
  intro j hj
  have := this (i * 54 + j) o_
  grind
 have e5 : (i + 1) * 54 = i * 54 + us.length := by omega
 have hil : (P ++ (us ++ Q)).length = (m + 1) * 54 := by grind
 have etot : i * 54 + us.length + (Q).length = (m + 1) * 54 := by omega
 refine gp [[1,1,1],[901],[0,1]] ?_; intro a S
 refine qY S (JcU (E := 59) S rfl k_) ?_
 refine gq [[0,1],[2],[940,31]] ?_ ?_
 ·intro a h31 S
  refine gp [[3,1,1]] ?_; intro a S
  refine qY S (ZI (e := 59) (sz := 54) S k_ rfl rfl o_) ?_
  refine gp [[0,1,1],[901],[0,1],[901]] ?_; intro a S
  simp only [Int.toNat_natCast] at S
  rw [show ((m : Int) + ((1 : Nat) : Int) - (i : Int)) = ((m + 1 - i : Nat) : Int) by omega] at S
  refine QL (e := 59) (sz := 54) (by_ := 368) (zc := Dj) (kn := .i64) (xs := P) (k := m + 1 - i) S M 0 rfl rfl k_ k_ rfl d_ rfl rfl rfl (by rw [List.append_assoc, ← hAl]; exact List.take_left) hAl o_ o_ o_ m_ ?_
  intro a wz bN capN moreN S hcN hcN2 hlN M
  rw [show i + (m + 1 - i) = m + 1 by omega] at S hcN
  refine gp [[0,1],[4,1,1]] ?_; intro a S
  refine qY S (Vr (e := 59) (sz := 54) S k_ rfl rfl o_) ?_
  refine gp [[0,1]] ?_; intro a S
  simp only [Int.toNat_natCast] at S
  rw [Y5 o_] at S
  refine Zi (e := 59) (sz := 54) (us := us) S M 0 rfl rfl k_ rfl rfl rfl (M.cellsAt (k := 54) 2 rfl hZc) (by rw [hxl]; simp only [Nat.min_def]; split <;> omega) hu (by rw [hxl, hlN]; omega) ?_
  intro a wy S M
  replace M := M.s_
  replace S := S.keep [0, 1, 2, 6, 7, 16, 8, 22, 31, 9]
  refine go [[3],[910,8,8],[911,0,1,1,1]] ?_; intro a w2 S M
  (refine Jj 3 S rfl (fun w => Zo S rfl rfl o_) ?_); intro a S
  refine Jj 4 S rfl (fun w => Vr (e := 59) (sz := 54) S k_ rfl rfl o_) ?_
  refine gp [[911,5,1,1]] ?_; intro a S
  refine Jj 7 S rfl (fun w => Vr (e := 59) (sz := 54) S k_ rfl rfl o_) ?_; intro a S
  refine k1_ 8 ?_
  rw [show ((i : Int) + ((1 : Nat) : Int)).toNat = i + 1 by omega, Int.toNat_natCast, Y5 (show i < lc by omega), Y5 (show i + 1 < capN by omega)] at S
  refine Zi (e := 59) (sz := 54) (us := Q) S M 0 rfl rfl k_ rfl rfl rfl (hclA _ (M.blk 1 rfl)) (by rw [hCl]; simp only [Nat.min_def]; congr 1; split <;> omega) (h1) (by rw [YF (by rw [hxl, hlN]; omega), hlN, hCl]; omega) ?_
  intro a wx S M
  replace M := M.s_
  refine kn_ ?_
  refine gp [[4,1,1],[4],[930]] ?_
  replace M := M.drp 1
  rw [e5] at M
  have hfit : i * 54 + us.length + (Q).length ≤ (P ++ moreN).length := by rw [hlN, etot]; omega
  have h2 := YF (l := P ++ moreN) (us := us) (o := i * 54) o_
  have M2 := M.toRow (sz := 54) (m := m + 1) (cap := capN) (xs := P ++ (us ++ Q)) 0 rfl hil hcN hcN2 (by rw [List.size_toArray, YF (by rw [h2]; omega), h2, hlN]) (by rw [List.toList_toArray, ← etot]; exact Xi hAl hfit)
  grind
 intro a h31 S
 refine gp [[5,1,1,1],[901]] ?_; intro a S
 refine qY S (ZI (e := 59) (sz := 54) S k_ rfl rfl o_) ?_; intro a S
 rw [show ((m : Int) + ((1 : Nat) : Int)).toNat = m + 1 by omega] at S
 refine qY S (JP S rfl) ?_
 refine gp [[5,1,1,1,1],[901]] ?_; intro a S
 refine qY S (Vr (e := 59) (sz := 54) S k_ rfl rfl o_) ?_; intro a S
 rw [show ((i : Int) + ((1 : Nat) : Int)).toNat = i + 1 by omega, Y5 (show i + 1 < lc by omega)] at S
 refine KK (e := 59) (size := 54) (tS := 31) (tR := 4) S M 1 0 Tryz.func216 k_ k_ k_ k_ k_ rfl rfl rfl rfl hne rfl rfl (by rw [List.size_toArray, hlen]; omega) ?_
 intro a S
 refine go [[0,1],[2],[942,68],[2],[910,8,8],[911,0,1,1,1]] ?_; intro a w3 S M
 (refine Jj 3 S rfl (fun w => Zo S rfl rfl o_) ?_); intro a S
 refine Jj 4 S rfl (fun w => Vr (e := 59) (sz := 54) S k_ rfl rfl o_) ?_
 refine gp [[911,5,1,1]] ?_; intro a S
 refine Jj 7 S rfl (fun w => Vr (e := 59) (sz := 54) S k_ rfl rfl o_) ?_; intro a S
 refine k1_ 8 ?_
 rw [show ((i : Int) + ((1 : Nat) : Int)).toNat = i + 1 by omega, Int.toNat_natCast, Y5 (show i < lc by omega), Y5 (show i + 1 < lc by omega)] at S
 refine Zi (e := 59) (sz := 54) (us := Q) S M 0 rfl rfl k_ rfl rfl rfl (hclA _ (M.blk 0 rfl)) (by rw [hCl]; simp only [Nat.min_def]; congr 1; split <;> omega) (h1) (by rw [hlen, hCl]; omega) ?_
 intro a wx S M
 replace M := M.s_
 refine kn_ ?_
 refine gp [[4,1,1]] ?_; intro a S
 refine qY S (Vr (e := 59) (sz := 54) S k_ rfl rfl o_) ?_
 refine gp [[0,1]] ?_; intro a S
 simp only [Int.toNat_natCast] at S
 rw [Y5 (show i < lc by omega)] at S
 refine Zi (e := 59) (sz := 54) (us := us) S M 0 rfl rfl k_ rfl rfl rfl (M.cellsAt (k := 54) 1 rfl hZc) (by rw [hxl]; simp only [Nat.min_def]; split <;> omega) hu (by rw [YF (by rw [hlen, hCl]; omega), hlen, hxl]; omega) ?_
 intro a wy S M
 replace M := M.s_
 refine gp [[4,1,1],[4],[930]] ?_
 rw [e5] at M
 have hfit : i * 54 + us.length + (Q).length ≤ ((P ++ Q) ++ more).length := by rw [hlen, etot]; omega
 have h2 := YF (l := (P ++ Q) ++ more) (us := Q) (o := i * 54 + us.length) hfit
 have M2 := M.toRow (sz := 54) (m := m + 1) (cap := lc) (xs := P ++ (us ++ Q)) 0 rfl hil o_ hc2 (by rw [List.size_toArray, YF (by rw [h2]; omega), h2, hlen]) (by rw [List.toList_toArray, ← etot]; exact JaX hAl hfit)
 grind
section
variable {ws : List Wr}
def J8 (ws : List Wr) (k : Int) : Option V8 := (ws.find? fun x => x.block == k).map (·.val)
theorem Jf7 (v : Value) (ws : List Wr) (k : Int) (w : World) (hv : Ws 0 w.heap.size w v ws) : CQ 285 #[v, .int .i64 k] w (.tuple #[.agg ((J8 ws k).getD zV8).cells, .bool (J8 ws k).isSome]) := by
 have M := Mem.start w
 have hl := hv.2.1
 unfold maxLen at hl
 generalize hR : J8 ws k = Z
 refine qI Tryz.func285 22 ?_; intro a S
 refine nxD (qN S M Kj ?_); intro a w1 bO S M hB
 refine gp [[0,1],[5,1],[908,108],[0,1],[3]] ?_; intro a S
 refine Jc (fun m a w' => ∃ (i : Nat), i ≤ ws.length ∧ m = ws.length - i ∧ Jk 22 a [(1, .int .i64 k), (4, p_ bO), (8, v), (9, .int .i64 (ws.length : Int)), (10, .int .i64 (i : Int))] ∧ Mem w w' [.blk bO zV8.cells 39] ∧ J8 (ws.drop i) k = Z) (ws.length) ?_ ?_
 ·skip
  exact ⟨0, Nat.zero_le _, rfl, S.sub _ rfl, M, hR⟩
 intro m a wl
 rintro ⟨i, hi, rfl, S, M, hpre⟩
 refine gq [[2,1],[3],[943,11]] ?_ ?_
 ·intro a h11 S
  refine gp [[8]] ?_; intro a S
  refine qY S (V5 (ps := []) (sz := 1) (z := Ki) (cs := [_, _, _, _, _, _, _, _]) S k_ rfl rfl) ?_
  refine go [[900,0],[0,1],[3]] ?_; intro a w5 S M
  refine Jr S rfl (rA_ 8 0 M) rT_ ?_
  obtain rfl : i = ws.length := by omega
  obtain rfl : Z = none := by rw [← hpre, List.drop_length]; rfl
  exact ⟨rfl, M.below⟩
 intro a h11 S
 refine gp [[6]] ?_; intro a S
 obtain ⟨q, hq⟩ : ∃ q, ws[i]? = some q := ⟨_, List.getElem?_eq_getElem o_⟩
 rw [jC hq] at hpre
 refine gp [[1],[907,108,9]] ?_; intro a S
 refine qY S (Ja S k_ rfl rfl ((M.arg hv).at_.row (i := i) (JQ hq) rfl)) ?_; intro a S
 refine qN S M Ww ?_; intro a w2 bX S M hB
 refine gi [[900,0],[4,1,1,1,1],[2],[943,17]] ?_ ?_
 ·intro a w3 h17 S M
  refine gp [[5],[901],[0,1],[2]] ?_; intro a S
  refine ⟨ws.length - (i + 1), by omega, i + 1, by omega, rfl, S.sub _ rfl, M.sub (.cons _ (.refl _)), ?_⟩
  grind [J8]
 intro a w3 h17 S M
 refine go [[3,2],[902,0,8],[900,1],[0,1],[8]] ?_; intro a w4 S M
 refine Jr S rfl (rA_ 8 1 M) rT_ ?_
 obtain rfl : Z = some q.val := by grind [J8]
 exact ⟨rfl, M.below⟩
def Vm : List Wr → Int → Nat
 | [], _ => 0
 | x :: l, k => if k ≤ x.block then 0 else Vm l k + 1
def YV (ws : List Wr) (k : Int) : Bool := match ws[Vm ws k]? with
 | some x => x.block == k
 | none => false
theorem JhX {k : Int} (h : YV ws k = true) : Vm ws k < ws.length := by
 grind [YV]
theorem JeW (x : Wr) (w : World) : CQ 334 #[.agg x.cellsL.toArray] w (.int .i64 x.block) := by
 have M := Mem.start w
 refine qI Tryz.func334 5 ?_; intro a S
 refine nxD (qW_ S M ?_); intro a w1 bX S M hB
 refine gp [[0,1],[4,1,1,1],[3],[930]] ?_
 grind
theorem W8 : ∀ (ws : List Wr) (k : Int), Vm ws k ≤ ws.length
 | [], _ => Nat.le_refl _
 | x :: l, k => by
   have := W8 l k
   grind [Vm]
theorem zo : ∀ {ws : List Wr} {k : Int} {i : Nat}, (∀ (j : Nat) (x : Wr), j < i → ws[j]? = some x → ¬ k ≤ x.block) → i ≤ ws.length → Vm ws k = i + Vm (ws.drop i) k
 | ws, k, 0, _, _ => by simp
 | [], k, i + 1, _, h => by grind
 | x :: l, k, i + 1, h, hi => by
   have h0 := h 0 x o_ rfl
   rw [Vm, if_neg h0, List.drop_succ_cons, zo (ws := l) (i := i) (fun j y hj hy => h (j + 1) y o_ (by grind)) (by grind)]; omega
theorem JdR (v : Value) (ws : List Wr) (k : Int) (w : World) (hv : Ws 0 w.heap.size w v ws) : CQ 333 #[v, .int .i64 k, .func (.func 334) #[] #[]] w (.tuple #[.int .i64 (Vm ws k : Nat), .bool (YV ws k)]) := by
 have M := Mem.start w
 have hl := hv.2.1
 unfold maxLen at hl
 refine qI Tryz.func333 31 ?_
 refine gp [[2,1,1],[5,1],[908,108],[0,1],[3]] ?_; intro a S
 refine Jc (fun m a w' => ∃ (i : Nat), i ≤ ws.length ∧ m = ws.length - i ∧ Jk 31 a [(0, v), (1, .int .i64 k), (2, .func (.func 334) #[] #[]), (11, v), (12, .int .i64 (ws.length : Int)), (13, .int .i64 (i : Int))] ∧ Mem w w' [] ∧ ∀ (j : Nat) (x : Wr), j < i → ws[j]? = some x → ¬ k ≤ x.block) (ws.length) ?_ ?_
 ·skip
  exact ⟨0, Nat.zero_le _, rfl, S.sub _ rfl, M, fun j x h => absurd h o_⟩
 intro m a wl
 rintro ⟨i, hi, rfl, S, M, hpre⟩
 refine gq [[2,1],[3],[943,14]] ?_ ?_
 ·intro a h14 S
  refine gp [[8,1]] ?_; intro a S
  refine qY S (Ys (E := 108) S rfl ((M.arg hv)) k_) ?_
  refine gp [[0,1,1],[3],[931]] ?_
  obtain rfl : i = ws.length := by omega
  refine ⟨?_, M.below⟩
  grind [Vm, zo, List.drop_length, YV]
 intro a h14 S
 refine gp [[6]] ?_; intro a S
 obtain ⟨q, hq⟩ : ∃ q, ws[i]? = some q := ⟨_, List.getElem?_eq_getElem o_⟩
 refine gp [[1,1],[907,108,9]] ?_; intro a S
 refine qY S (Ja S k_ rfl rfl ((M.arg hv).at_.row (i := i) (JQ hq) rfl)) ?_; intro a S
 refine qN S M Ww ?_; intro a w1 bX S M hB
 refine go [[0,1],[900,0],[4,1],[902,0,9]] ?_; intro a w2 S M
 refine JR (xs := [.tmp 19]) (fi := []) (ca := []) S (Ji Tryz.func334 d_ rfl) rfl rfl (rfl) rfl (JeW q _) ?_
 rintro _ w3 ⟨rfl, hK⟩; replace M := M.grow hK
 refine gq [[0,1],[4,1,1,1],[2],[940,23]] ?_ ?_
 ·intro a h23 S
  refine gp [[3,1,1,1,1,1,1],[8],[931]] ?_
  refine ⟨?_, M.below⟩
  have e : Vm ws k = i := by rw [zo hpre hi, jC hq, Vm, if_pos o_]; rfl
  grind [YV]
 intro a h23 S
 refine gp [[5],[901],[0,1],[2]] ?_; intro a S
 refine ⟨ws.length - (i + 1), by omega, i + 1, by omega, rfl, S.sub _ rfl, M.sub (.cons _ (.refl _)), fun j x hj hx => ?_⟩
 grind
theorem Dv (ws : List Wr) (i : Nat) : (JM ws).drop (i * 9) = JM (ws.drop i) := by
 rcases Nat.lt_or_ge ws.length i with h | h
 ·rw [List.drop_of_length_le (by grind [Zp]), List.drop_of_length_le o_]; rfl
 ·conv => lhs; rw [← List.take_append_drop i ws, vY]
  grind [Zp]
theorem Du (ws : List Wr) (i : Nat) : (JM ws).take (i * 9) = JM (ws.take i) := by
 grind [Zp, List.take_append_drop, JM]
theorem Rd.tail9 {lo hi i : Nat} {w : World} {v : Value} (h : Ws lo hi w v ws) (hi' : i ≤ ws.length) (hc : ws.length ≤ Yb v) : Ws lo hi w (jg v i ws.length (Yb v) 9) (ws.drop i) := by
 have := h.cutv hi' (Nat.le_refl _) hc (Nat.le_refl _)
 rw [List.take_of_length_le (by rw [List.length_drop, h.1, Nat.sub_mul]; omega), Dv] at this
 grind
theorem Rd.front9 {lo hi i : Nat} {w : World} {v : Value} (h : Ws lo hi w v ws) (hi' : i ≤ ws.length) (hc : ws.length ≤ Yb v) : Rd lo hi w 9 (jg v 0 i i 9) i (JM (ws.take i)) := by
 have := h.cutv (Nat.zero_le i) hi' (Nat.le_refl _) (Nat.le_trans hi' hc)
 grind [Du]
def VC (ws : List Wr) (x : Wr) : List Wr := ws.take (Vm ws x.block) ++ x :: ws.drop (Vm ws x.block + if YV ws x.block = true then 1 else 0)
set_option maxHeartbeats 1000000 in
theorem JfE (va : Option Addr) (vc : Nat) (ws : List Wr) (x : Wr) (w : World) (hv : Ws 0 w.heap.size w (.slice va ws.length vc) ws) (hw : Jv ws = true) (hx : 0 ≤ x.block ∧ x.block < 32) :
 CT 286 #[.slice va ws.length vc, .agg x.cells] w fun e w' => (e = .returned (.tuple #[Jz, .int .i64 50]) ∧ YV ws x.block = false ∧ 8 ≤ ws.length ∧ Below w.heap.size w w') ∨ (∃ ad cp lo hi, e = .returned (.tuple #[.slice ad (VC ws x).length cp, .int .i64 0]) ∧ ¬ (YV ws x.block = false ∧ 8 ≤ ws.length) ∧ Mem w w' [Jd lo hi 108 9 (.slice ad (VC ws x).length cp) (VC ws x).length (JM (VC ws x))]) := by
 have M := Mem.start w
 have hp := W8 ws x.block
 have hcap : ws.length ≤ Yb (.slice va ws.length vc) := hv.cap.1
 have hl : ws.length ≤ 8 := by grind [Jv]
 refine qI Tryz.func286 51 ?_; intro a S
 refine nxD (qW_ S M ?_); intro a w1 bX S M hB
 refine gp [[0,1,1],[5,1]] ?_; intro a S
 refine qK S rfl (vD _ ws _ (M.argW hv)) M ?_; intro a w2 S hK M
 refine gq [[0,1,1],[940,13]] ?_ ?_
 ·intro a h13 S
  rw [hw] at h13; cases h13
 intro a h13 S
 refine gp [[0,1,1]] ?_; intro a S
 refine qK S rfl (JaV x.block _) M ?_; intro a w3 S hK M
 refine gq [[0,1,1],[2],[940,18]] ?_ ?_
 ·intro a h18 S
  exact absurd hx h18
 intro a h18 S
 refine gp [[5,1,1,1]] ?_; intro a S
 refine qK S rfl (JdR _ ws x.block _ (M.argW hv)) M ?_; intro a w4 S hK M
 refine gp [[0,1,1,1,1,1],[2]] ?_; intro a S
 refine YI (fun a w' => Jk 51 a [(0, .slice va ws.length vc), (3, p_ bX), (6, .int .i64 (Vm ws x.block : Nat)), (7, .bool (YV ws x.block))] ∧ Mem w w' [.blk bX x.cells 108] ∧ ¬ (YV ws x.block = false ∧ 8 ≤ ws.length)) ?_ ?_
 ·skip
  refine gq [[2,1,1,1],[943,28]] ?_ ?_
  ·intro a h28 S
   refine gp [[0,0,0,0,1],[5]] ?_; intro a S
   exact ⟨S.sub _ rfl, M, fun h => by grind⟩
  intro a h28 S
  refine gq [[0,1],[908,108],[0,1,1],[2],[943,32]] ?_ ?_
  ·intro a h32 S
   refine gp [[3]] ?_; intro a S
   exact ⟨S.sub _ rfl, M, fun h => by omega⟩
  intro a h32 S
  refine gp [[3,1,1],[4],[931]] ?_
  exact .inl ⟨rfl, h28, by omega, M.below⟩
 intro a wc
 rintro ⟨S, M, hno⟩
 refine gp [[2,1,1]] ?_; intro a S
 refine qY S (jH (e := 108) (sz := 9) S k_ rfl ((M.arg hv)) rfl o_) ?_
 refine gp [[0,1],[2]] ?_; intro a S
 refine YI (fun a w' => ∃ rv n2, Jk 51 a [(0, .slice va ws.length vc), (3, p_ bX), (6, .int .i64 (Vm ws x.block : Nat)), (8, rv)] ∧ Mem w w' [.blk bX x.cells 108] ∧ n2 ≤ 8 ∧ Rd 0 w.heap.size w 9 rv n2 (JM (ws.drop (Vm ws x.block + if YV ws x.block = true then 1 else 0)))) ?_ ?_
 ·skip
  refine gq [[2,1],[2],[943,36]] ?_ ?_
  ·intro a h36 S
   refine gp [[3]] ?_; intro a S
   (rw [if_neg (by grind)]; exact ⟨_, (ws.drop (Vm ws x.block)).length, S.sub _ rfl, M, by grind, hv.tail9 hp hcap⟩)
  intro a h36 S
  refine cT S ?_
  have hlt := JhX h36
  refine gp [[1,1,1],[901]] ?_; intro a S
  rw [show ((Vm ws x.block : Int) + 1) = ((Vm ws x.block + 1 : Nat) : Int) by omega] at S
  refine qY S (jH (e := 108) (sz := 9) S k_ rfl ((M.arg hv)) rfl o_) ?_
  refine gp [[0,1],[2]] ?_; intro a S
  (rw [if_pos h36]; exact ⟨_, (ws.drop (Vm ws x.block + 1)).length, S.sub _ rfl, M, by grind, hv.tail9 hlt hcap⟩)
 intro a wc
 rintro ⟨rv, n2, S, M, hn2, hrv⟩
 refine go [[1],[910,6],[911,0,1,1,1]] ?_; intro a w5 S M
 refine kR 3 S rfl M (fun w M => yi (e := 108) (sz := 9) S k_ rfl ((M.arg hv)) rfl rfl o_) ?_; intro a S
 refine kR 4 S rfl M (fun w M => Ja (cs := [_, _, _, _, _, _, _, _, _]) S k_ rfl rfl (M.cellsAt (k := 9) 0 rfl rfl)) ?_; intro a S
 refine k1_ 5 ?_
 refine JG (ps := [(0, .tmp 45)]) (e := 108) (sz := 9) (zl := Wv) (cs := [_, _, _, _, _, _, _, _, _]) S M rfl rfl k_ rfl (rfl) ?_; intro a w6 bZ S M hB
 refine kH_ hB ?_
 refine k1_ 6 ?_
 refine QN (e := 108) (sz := 9) (by_ := 16) (zc := Wv) S M rfl rfl k_ rfl rfl rfl (((M.arg hv).front9 hp hcap)) (by simp [Yb, jg]) (show Rd _ _ _ 9 _ 1 (JM [x]) from M.sliceAt 0 rfl (M.cellsAt (k := 9) 0 rfl rfl) rfl (Nat.le_refl _) (by grind [maxLen])) o_ (by grind [maxLen]) ?_; intro a w7 vA loA hiA S M
 refine kn_ ?_
 refine gp [[911,7,1],[4,1,1]] ?_; intro a S
 refine JI (e := 108) (sz := 9) (by_ := 16) (zc := Wv) S M 0 rfl rfl k_ rfl d_ rfl rfl rfl (M.arg hrv) (yh _) o_ (by grind [maxLen]) ?_; intro a w8 vA loA hiA S M
 refine gp [[0,1,1],[3],[931]] ?_
 have hn : n2 = (ws.drop (Vm ws x.block + if YV ws x.block = true then 1 else 0)).length := by
  have := hrv.1; grind [Zp]
 have e : Vm ws x.block + 1 + n2 = (VC ws x).length := by
  grind [VC]
 rw [Int.toNat_natCast, ← vY, ← vY, e, List.append_assoc] at M
 obtain ⟨ad, cp, rfl, -, -⟩ := (M.readRow 0 rfl (by grind [maxLen])).form
 exact .inr ⟨ad, cp, _, _, rfl, hno, M.sub (.cons_cons _ (List.nil_sublist _))⟩
end
theorem JaI {cs row us : List Value} {sz k j : Nat} (hrow : (cs.drop (k * sz)).take sz = row) (hk : (k + 1) * sz ≤ cs.length) (hj : j + us.length ≤ sz) : Jt cs (k * sz + j) us = cs.take (k * sz) ++ Jt row j us ++ cs.drop ((k + 1) * sz) := by
 have h1 : (k + 1) * sz = k * sz + sz := by grind
 have hl : (cs.take (k * sz)).length = k * sz := by grind
 have hr : row.length = sz := by grind
 have e : cs = cs.take (k * sz) ++ (row ++ cs.drop ((k + 1) * sz)) := by
  grind [List.take_append_drop]
 rw [Yc _ _ _ o_, Yc _ _ _ o_]
 conv => lhs; rw [e]
 have e2 : (cs.take (k * sz) ++ (row ++ cs.drop ((k + 1) * sz))).take (k * sz + j) = cs.take (k * sz) ++ row.take j := by
  rw [List.take_append, hl, List.take_of_length_le o_, show k * sz + j - k * sz = j by omega, List.take_append_of_le_length o_]
 have e3 : (cs.take (k * sz) ++ (row ++ cs.drop ((k + 1) * sz))).drop (k * sz + j + us.length) = row.drop (j + us.length) ++ cs.drop ((k + 1) * sz) := by
  rw [List.drop_append, hl, List.drop_of_length_le o_, List.nil_append, show k * sz + j + us.length - k * sz = j + us.length by omega, List.drop_append_of_le_length o_]
 grind
theorem BkG.put {α : Type} {S : Shp α} {cs us : List Value} {l : List α} {es : List Ent} {k j z : Nat} {q q' : α} {lv lv' : Value} (h : BkG S cs l es) (hz : S.sz = z) (hk : k < l.length) (hrow : (cs.drop (k * z)).take z = S.f q lv) (hw : WrAt lv' (S.wr q') es) (hj : j + us.length ≤ z) (he : Jt (S.f q lv) j us = S.f q' lv') :
 BkG S (Jt cs (k * z + j) us) (l.set k q') es ∧ ((Jt cs (k * z + j) us).drop (k * z)).take z = S.f q' lv' := by
 subst hz
 have h1 : (k + 1) * S.sz = k * S.sz + S.sz := by grind
 have hle : (k + 1) * S.sz ≤ cs.length := by rw [h.1]; exact Nat.mul_le_mul_right _ hk
 have e := JaI (us := us) hrow hle hj
 rw [he] at e
 rw [e]
 refine ⟨h.set hk hw, ?_⟩
 rw [List.append_assoc, List.drop_append_of_le_length (by grind), List.drop_of_length_le (by grind), List.nil_append, ← S.len q' lv', List.take_left]
theorem CellsAt.part {w : World} {b o i k : Nat} {cs us : List Value} (h : CellsAt w b o cs) (hc : Vs cs i k = some us) : CellsAt w b (o + i) us := fun j hj => by
 obtain ⟨h1, h2⟩ := vV _ _ _ _ hc
 have e := h2 j o_
 have hlt : i + j < cs.length := by
  grind
 rw [Nat.add_assoc, h (i + j) hlt, e]
theorem JiN (q : Lv) (m : Msg) (lv : Value) : Jt (q.cellsL lv) 5 (m.cells Jz).toList = ({ q with ans := m } : Lv).cellsL lv := by kernel_rfl
theorem JaR (q : Lv) (b : Bool) (lv : Value) : Jt (q.cellsL lv) 4 [.bool b] = ({ q with told := b } : Lv).cellsL lv := rfl
theorem Jj2 (q : Lv) (n : Int) (lv : Value) : Jt (q.cellsL lv) 3 [.int .i64 n] = ({ q with n := n } : Lv).cellsL lv := rfl
theorem JaS (q : Lv) (m : Msg) (ea : Option Addr) (ec : Nat) (lv : Value) : Jt (q.cellsL lv) 29 (m.cells (.slice ea 0 ec)).toList = ({ q with exec := m, ea := ea, ec := ec } : Lv).cellsL lv := by kernel_rfl
theorem JgT (q : Lv) (lv lv' : Value) : Jt (q.cellsL lv) 53 [lv'] = q.cellsL lv' := by kernel_rfl
theorem zQ (q : Lv) (lv : Value) (w : World) : CQ 126 #[.agg (q.cellsL lv).toArray] w (.agg (Lk.cellsL ⟨q.name, q.exec.block, q.exec.op != 0⟩).toArray) := by
 have M := Mem.start w
 refine qI Tryz.func126 13 ?_; intro a S
 refine nxD (qW_ S M ?_); intro a w1 bX S M hB
 refine qN S M yg ?_; intro a w2 bY S M hB
 refine gp [[4,1],[902,1,3],[0,30,11,2,30,10,2,1]] ?_; intro a S
 refine qB_ [(0, 3), (3, 1), (4, 1)] cz9 S ?_
 refine go [[900,0],[3]] ?_; intro a w3 S M
 refine Vb S rfl (rA_ 5 0 M) ?_
 exact ⟨rfl, M.below⟩
theorem PxI.withL {D : PxD} {X : Px} {es : List Ent} (h : PxI D X es) {cs : List Value} {l : List Lr} (hB : BkG lvS cs l es) (la : Option Addr) (lc l1 l2 : Nat) : PxI { D with la := la, lc := lc, l1 := l1, l2 := l2, lcs := cs } { X with lv := l } es := ⟨hB, h.ov, h.ml, h.el⟩
theorem PxM.withL {wc w : World} {R : List Ent} {C : PxC} {X : Px} {er : Int} {D : PxD} {es : List Ent} (h : PxI D X es) {cs : List Value} {l : List Lr} (hB : BkG lvS cs l es) (hl : l.length = X.lv.length) (l1 l2 : Nat)
 (M : Mem wc w (.blk C.b (D.cells X C er) 106 :: Jd D.h1 D.h2 110 5 (.slice D.ha X.h.length D.hc) X.h.length (Jg X.h) :: Jd D.w1 D.w2 110 5 (.slice D.wa X.wt.length D.wc) X.wt.length (Jg X.wt) :: Jd l1 l2 59 54 (.slice D.la X.lv.length D.lc) X.lv.length cs :: Jd D.o1 D.o2 160 4 (.slice D.oa X.ov.length D.oc) X.ov.length D.ocs ::
 Jd D.m1 D.m2 46 24 (.slice D.ma X.ml.length D.mc) X.ml.length D.mcs :: Jd D.e1 D.e2 235 4 (.slice D.ea X.el.length D.ec) X.el.length D.ecs :: (es ++ R))) : PxM wc w R C { X with lv := l } er := by
 refine ⟨{ D with l1 := l1, l2 := l2, lcs := cs }, es, h.withL hB D.la D.lc l1 l2, ?_⟩
 grind
section
variable {wc w : World} {R : List Ent} {C : PxC} {X : Px} {er : Int}
theorem JbJ (W : PxM wc w R C X er) (hf : X.few) (k : Nat) (hk : k < X.lv.length) : CT 140 #[pB C.b, .int .i64 (k : Int)] w fun e w' => e = .returned (.tuple #[]) ∧ PxM wc w' R C { X with lv := X.lv.eraseIdx k } er := by
 obtain ⟨D, es, hI, M⟩ := W
 have hl := hf.lv
 have hcl : D.lcs.length = X.lv.length * 54 := hI.lv.1
 dsimp only [PxD.ents, PxD.cells] at M
 refine qI Tryz.func140 17 ?_; intro a S
 skip
 replace M := M.frn 3
 obtain ⟨g, cap, more, hvE, hc1, hc2, hc3, M1⟩ := M.ofRow o_
 simp only [Value.slice.injEq] at hvE
 obtain ⟨hvE, -, rfl⟩ := hvE
 rw [hvE] at M1
 clear M
 have M := M1
 clear M1
 refine gp [[1,1,1,1,1,3,2,1,1],[901]] ?_; intro a S
 refine qD S rfl (Jaq M hcl (YR hI.lv.2.1 _).2 hc3 hc1 hc2 hk) ?_
 rintro _ w1 ⟨rfl, more2, hm2, M1⟩; replace M := M1; clear M1
 refine go [[0,1,1,3],[900,1],[1]] ?_; intro a w2 S M
 refine JD S rfl ?_
 have hD' := hI.lv.del hk
 have hle : (X.lv.eraseIdx k).length = X.lv.length - 1 := by grind
 have hl2 : (D.lcs.take (k * 54) ++ D.lcs.drop ((k + 1) * 54)).length = (X.lv.length - 1) * 54 := by
  grind
 replace M := M.toRow (sz := 54) (m := X.lv.length - 1) (cap := D.lc) (xs := D.lcs.take (k * 54) ++ D.lcs.drop ((k + 1) * 54)) 0 rfl hl2 o_ hc2 o_ (by grind)
 refine ⟨rfl, { D with la := some ⟨g, 0, none⟩, l1 := g, l2 := g + 1, lcs := _ }, es, ⟨hD', hI.ov, hI.ml, hI.el⟩, ?_⟩
 dsimp only [PxD.ents, PxD.cells]
 rw [hle]; exact ((M.front 3 rfl).front 3 rfl).front 3 rfl
abbrev vy (self : Int) (nm : Nm) (n e : Int) (v : V8) : Msg := ⟨3, self, 0, 0, 0, nm, n, 0, 0, v, e, false, 0, 0⟩
def zF (self : Int) (q : Lr) (e : Int) (v : V8) : Lr := (⟨q.1.name, q.1.n, true, vy self q.1.name q.1.n e v, vX, none, 0⟩, q.2)
def Px.ans (X : Px) (self : Int) (k : Nat) (q : Lr) (e : Int) (v : V8) : Px := { X with lv := X.lv.set k (zF self q e v), ml := X.ml ++ [(vy self q.1.name q.1.n e v, [])] }
set_option maxHeartbeats 1000000 in
theorem JcB (W : PxM wc w R C X er) (hf : X.few) (k : Nat) (q : Lr) (hq : X.lv[k]? = some q) (e : Int) (v : V8) : CT 219 #[pB C.b, .int .i64 (k : Int), .int .i64 e, .agg v.cells] w fun en w' => en = .returned (.tuple #[]) ∧ PxM wc w' R C (X.ans C.self k q e v) er := by
 obtain ⟨D, es, hI, M⟩ := W
 have hl := hf.lv
 have hcl : D.lcs.length = X.lv.length * 54 := hI.lv.1
 have hk := (List.getElem?_eq_some_iff.1 hq).1
 obtain ⟨lv, hrow, hws⟩ := hI.lv.at hq
 replace hrow : (D.lcs.drop (k * 54)).take 54 = q.1.cellsL lv := hrow
 dsimp only [PxD.ents] at M
 refine qI Tryz.func219 47 ?_
 refine gp [[2]] ?_; intro a S
 refine qW_ S M ?_; intro a w1 bV S M hB
 refine gp [[4,1,1,1,3,2,1]] ?_; intro a S
 refine qY S (qX 59 54 S (M.readRow 4 rfl (by grind [maxLen]))) ?_; intro a S
 replace S := S.n_
 refine go [[0,1],[3],[910,18],[911,0,1,1,1,6,2,1,1,1]] ?_; intro a w2 S M
 refine kR 8 S rfl M (fun w M => Ja S k_ rfl rfl (((M.readRow 4 rfl (by grind [maxLen])).at_.row (i := k) hrow rfl).part (i := 0) (k := 3) rfl)) ?_
 refine gp [[911,9,1,1,4]] ?_; intro a S
 refine kR 12 S rfl M (fun w M => Jf S k_ rfl ((M.readRow 4 rfl (by grind [maxLen])).at_.row (i := k) hrow rfl 3 (by grind))) ?_
 refine gp [[911,13,1],[912,14,0,8]] ?_; intro a S
 refine Jj 15 S rfl (fun w => JW (ps := [(0, .const (.int .i8 3)), (1, .tmp 20), (2, .const (.int .i64 0)), (5, .tmp 24), (6, .tmp 28), (10, .tmp 29), (9, .tmp 30)]) (pl := cz8) (z := cz0) (cs := [_, _, _, _, _, _, _, _, _, _, _, _, _, _, _, _, _, _, _, _, _, _, _, _]) S k_ rfl (rfl)) ?_
 refine gp [[911,16,1,6]] ?_; intro a S
 refine k1_ 18 ?_
 refine Vh (v := .slice D.la X.lv.length D.lc) (sz := 54) (m := X.lv.length) (j := k * 54 + 5) (us := ((vy C.self q.1.name q.1.n e v).cells Jz).toList) S M 4 rfl k_ rfl rfl (by rfl) rfl rfl rfl rfl rfl o_ hcl (by rw [hcl]; show k * 54 + 5 + 24 ≤ _; omega) ?_; intro wz l1 h1 M
 replace M := M.e_
 replace M := M.od [4, 4, 4]
 refine kn_ ?_
 refine gp [[3]] ?_; intro a S
 obtain ⟨hB1, hr1⟩ := hI.lv.put (q' := ({ q.1 with ans := vy C.self q.1.name q.1.n e v }, q.2)) (us := ((vy C.self q.1.name q.1.n e v).cells Jz).toList) (j := 5) (z := 54) rfl hk hrow hws (by simp_all) (JiN _ _ _)
 have hc1 : (Jt D.lcs (k * 54 + 5) ((vy C.self q.1.name q.1.n e v).cells Jz).toList).length = X.lv.length * 54 := by grind [Vu]
 refine gp [[1,1,1]] ?_; intro a S
 refine qB_ cz8 cz0 S ?_
 refine gp [[0,1,5]] ?_; intro a S
 refine Vh (v := .slice D.la X.lv.length D.lc) (sz := 54) (m := X.lv.length) (j := k * 54 + 4) (us := [.bool true]) S M 3 rfl k_ rfl rfl (by rfl) rfl rfl rfl rfl rfl o_ hc1 (by grind) ?_; intro wz l2 h2 M
 replace M := M.e_
 replace M := M.od [3, 3, 3]
 obtain ⟨hB2, hr2⟩ := hB1.put (q' := ({ q.1 with ans := vy C.self q.1.name q.1.n e v, told := true }, q.2)) (us := [.bool true]) (j := 4) (z := 54) rfl (by grind) hr1 hws (by grind) (JaR _ _ _)
 refine qG [1, 30] S ?_; intro a S
 refine Vh (v := .slice D.la X.lv.length D.lc) (sz := 54) (m := X.lv.length) (j := k * 54 + 29) (us := (vX.cells Jz).toList) S M 3 rfl k_ rfl rfl (by rfl) rfl rfl rfl rfl rfl o_ (by grind [Vu]) (by rw [Vu, hc1]; show k * 54 + 29 + 24 ≤ _; omega) ?_; intro wz l3 h3 M
 replace M := M.e_
 replace M := M.od [3, 3, 3]
 obtain ⟨hB3, hr3⟩ := hB2.put (q' := zF C.self q e v) (us := (vX.cells Jz).toList) (j := 29) (z := 54) rfl (by rw [List.length_set, List.length_set]; exact hk) hr2 hws (by show 29 + 24 ≤ 54; omega) (JaS { q.1 with ans := vy C.self q.1.name q.1.n e v, told := true } _ none 0 _)
 rw [List.set_set, List.set_set] at hB3
 refine nxC ?_
 have hf4 : ({ X with lv := X.lv.set k (zF C.self q e v) } : Px).few := ⟨by show (X.lv.set _ _).length ≤ 1000; rw [List.length_set]; exact hf.lv, hf.ov, hf.ml, hf.el, hf.h, hf.wt⟩
 have W4 := PxM.withL hI hB3 List.length_set _ _ (M.sub (.cons_cons _ (.cons_cons _ (.cons_cons _ (.cons_cons _ (.cons _ (.refl _)))))))
 refine gp [[1,1,1,1,6]] ?_; intro a S
 refine qY S (Ja S k_ rfl rfl (((M.readRow 3 rfl m_).at_.row (i := k) hr3 rfl).part (i := 5) (k := 24) rfl)) ?_; intro a S
 refine qD S rfl (yD W4 hf4 (vy C.self q.1.name q.1.n e v)) ?_
 rintro _ w3 ⟨rfl, W1⟩
 refine gp [[1]] ?_; intro a S
 refine JD S rfl ?_
 exact ⟨rfl, W1⟩
end
theorem Q1 {b bd : Nat} {s : Sh} {dv : Value} (k : Nat) (w : World) (hB : Blk w b (shC bd s dv).toArray 101) (ho : s.x.owned = 255) (hk : k < 8) :
 CQ 218 #[pB b, .int .i64 (k : Int)] w (.bool true) := by
 have M := Mem.start w
 have hBk := hB
 clear hB
 refine qI Tryz.func218 25 ?_
 refine gp [[2,1],[5,1]] ?_; intro a S
 refine qY S (J9 k_ S rfl) ?_
 refine gp [[0,1,1,1,1,1],[941,11],[0,1,1,1],[2],[941,14],[5,1,1,2,1,3]] ?_; intro a S
 refine qY S (Jf S k_ rfl (show _ = some (Value.int .i64 s.x.owned) from Blk.at hBk M.below rfl)) ?_
 refine gp [[0,1]] ?_; intro a S
 (refine qY S (QA S rfl rfl o_) ?_); intro a S
 refine qY S (J2 S rfl rfl rfl) ?_
 refine gp [[0,1,1],[3],[930]] ?_
 refine ⟨?_, M.below⟩
 rw [ho]
 rcases lt8 hk with rfl | rfl | rfl | rfl | rfl | rfl | rfl | rfl <;> rfl
theorem JdL (va : Option Addr) (vc : Nat) (ws : List Wr) (x : Wr) (w : World) (hv : Ws 0 w.heap.size w (.slice va ws.length vc) ws) (hw : Jv ws = true) (hx : 0 ≤ x.block ∧ x.block < 32) :
 CT 286 #[.slice va ws.length vc, .agg x.cells] w fun e w' => ∃ ad cp lo hi n cs z, e = .returned (.tuple #[.slice ad n cp, .int .i64 z]) ∧ Mem w w' [Jd lo hi 108 9 (.slice ad n cp) n cs] ∧ ((z = 50 ∧ YV ws x.block = false ∧ 8 ≤ ws.length) ∨ (z = 0 ∧ ¬ (YV ws x.block = false ∧ 8 ≤ ws.length) ∧ n = (VC ws x).length ∧ cs = JM (VC ws x))) :=
 (JfE va vc ws x w hv hw hx).mono fun e w' h => by
   rcases h with ⟨rfl, h1, h2, hK⟩ | ⟨ad, cp, lo, hi, rfl, h1, M⟩
   ·exact ⟨none, 0, _, _, 0, [], 50, rfl, ((Mem.start w).grow hK).rowNil 108 9, .inl ⟨rfl, h1, h2⟩⟩
   grind
theorem JfD {ws : List Wr} {x : Wr} (hw : ws.length ≤ 8) : (VC ws x).length ≤ 9 := by
 grind [VC]
section
variable {wc w : World} {A : List Ent} {C : PxC} {X : Px} {er : Int} {bd : Nat} {s : Sh} {S : DS}
theorem PxS.less {A' : List Ent} (h : PxS wc w A C X er bd s S) (hs : A'.Sublist A) : PxS wc w A' C X er bd s S := by
 obtain ⟨da, dc, lo, hi, cs, es', E, D, es, hE, hB, hI, M⟩ := PxS.openL (L := []) h
 refine PxS.closeL (L := []) (da := da) (dc := dc) (lo := lo) (hi := hi) hE hB hI (M.sub ?_)
 simp_all
theorem JcZ {α : Type} {ns P es Z : List α} : (ns ++ (P ++ (es ++ Z))).Perm (P ++ ((ns ++ es) ++ Z)) := by
 rw [← List.append_assoc, List.append_assoc ns es, ← List.append_assoc P]
 exact List.perm_append_comm.append_right _
theorem PxS.withL {da : Option Addr} {dc lo hi l1 l2 : Nat} {cs cs' : List Value} {es' E : List Ent} {D : PxD} {es : List Ent} {ns : List Ent} {l : List Lr} (hE : DkE bd S E) (hQ : PrBk cs s.ps es') (hI : PxI D X es) (hB : BkG lvS cs' l (ns ++ es)) (hl : l.length = X.lv.length)
 (M : Mem wc w (ns ++ .blk C.b (D.cells X C er) 106 :: Jd D.h1 D.h2 110 5 (.slice D.ha X.h.length D.hc) X.h.length (Jg X.h) :: Jd D.w1 D.w2 110 5 (.slice D.wa X.wt.length D.wc) X.wt.length (Jg X.wt) :: Jd l1 l2 59 54 (.slice D.la X.lv.length D.lc) X.lv.length cs' :: Jd D.o1 D.o2 160 4 (.slice D.oa X.ov.length D.oc) X.ov.length D.ocs ::
 Jd D.m1 D.m2 46 24 (.slice D.ma X.ml.length D.mc) X.ml.length D.mcs :: Jd D.e1 D.e2 235 4 (.slice D.ea X.el.length D.ec) X.el.length D.ecs :: (es ++ stE C.bs bd s da dc lo hi cs (es' ++ (A ++ E))))) : PxS wc w A C { X with lv := l } er bd s S := by
 refine PxS.closeL (L := []) (da := da) (dc := dc) (lo := lo) (hi := hi) (D := { D with l1 := l1, l2 := l2, lcs := cs' }) (es := ns ++ es) hE hQ ((hI.mono fun e he => List.mem_append_right _ he).withL hB D.la D.lc l1 l2) ?_
 have M9 := M.perm (JcZ (P := [_, _, _, _, _, _, _]))
 grind
theorem PxS.answer (W : PxS wc w A C X er bd s S) (hf : X.few) (k : Nat) (q : Lr) (hq : X.lv[k]? = some q) (e : Int) (v : V8) : CT 219 #[pB C.b, .int .i64 (k : Int), .int .i64 e, .agg v.cells] w fun en w' => en = .returned (.tuple #[]) ∧ PxS wc w' A C (X.ans C.self k q e v) er bd s S :=
 W.call fun _ W => JcB W hf k q hq e v
def onV (h : List V8) (q : Lr) : V8 := (J8 q.2 q.1.exec.block).getD (h.getD q.1.exec.block.toNat zV8)
def onQ (q : Lr) : Lr := (q.1, VC q.2 ⟨q.1.exec.block, q.1.exec.val⟩)
def Px.on (X : Px) (self : Int) (h : List V8) (k : Nat) (q : Lr) : Px :=
 if q.1.exec.op ≠ 1 then X.ans self k q 0 (onV h q)
 else if YV q.2 q.1.exec.block = false ∧ 8 ≤ q.2.length then X.ans self k q 50 zV8
 else ({ X with lv := X.lv.set k (onQ q) } : Px).ans self k (onQ q) 0 q.1.exec.val
set_option maxHeartbeats 1000000 in
theorem JaL {N : Int} (W : PxS wc w A C X er bd s S) (hI : ShI S s N) (ho : s.x.owned = 255) (hf : X.few) (k : Nat) (q : Lr) (hq : X.lv[k]? = some q) (b : Nat) (hb : q.1.exec.block = (b : Int)) (hb32 : b < 32) (hw : Jv q.2 = true) :
 CT 221 #[pB C.b, .int .i64 (k : Int)] w fun e w' => e = .returned (.tuple #[]) ∧ PxS wc w' A C (X.on C.self s.h k q) er bd s S := by
 obtain ⟨da, dc, lo, hi, cs, es', E, D, es, hE, hQ, hI9, M⟩ := PxS.openL (L := []) W
 have hl := hf.lv
 have hsl := hI.hl
 have hcl : D.lcs.length = X.lv.length * 54 := hI9.lv.1
 have hk := (List.getElem?_eq_some_iff.1 hq).1
 obtain ⟨lv, hrow, hws⟩ := hI9.lv.at hq
 replace hrow : (D.lcs.drop (k * 54)).take 54 = q.1.cellsL lv := hrow
 obtain ⟨va, vc, rfl, hvl⟩ := hws.form
 replace hws : WrAt (.slice va q.2.length vc) q.2 es := hws
 have hes : ∀ e ∈ es, e ∈ D.ents X C er (es ++ stE C.bs bd s da dc lo hi cs (es' ++ (A ++ E))) := fun e he => by grind
 have hst : shE C.bs bd s (.slice da s.ps.length dc) ∈ D.ents X C er (es ++ stE C.bs bd s da dc lo hi cs (es' ++ (A ++ E))) := by simp
 have hhb : s.h[b]? = some (s.h.getD b zV8) := by grind
 replace M : Mem wc w (D.ents X C er (es ++ stE C.bs bd s da dc lo hi cs (es' ++ (A ++ E)))) := M
 dsimp only [PxD.ents] at M hes hst
 refine qI Tryz.func221 98 ?_
 refine gp [[2,1,1,1,3,1,1]] ?_; intro a S
 refine qY S (qX 59 54 S (M.readRow 3 rfl (by grind [maxLen]))) ?_; intro a S
 replace S := S.n_
 refine gp [[0,1],[4,1,1,30,11]] ?_; intro a S
 refine qY S (Jf S k_ rfl ((M.readRow 3 rfl (by grind [maxLen])).at_.row (i := k) hrow rfl 39 (by grind))) ?_
 refine gp [[0,1],[5,1,1,5,1,1]] ?_; intro a S
 rw [hb] at S
 refine qY S (QB S rfl rfl o_) ?_; intro a S
 rw [show (b : Int) / 4 = ((b / 4 : Nat) : Int) by omega] at S
 refine qK S rfl (Q1 (b / 4) _ (M.ok _ hst) ho o_) M ?_; intro a w1 S hK M
 refine gp [[0,1],[2],[941,29],[6,1,1,30,10]] ?_; intro a S
 refine qY S (Jf S k_ rfl ((M.readRow 3 rfl (by grind [maxLen])).at_.row (i := k) hrow rfl 38 (by grind))) ?_
 refine gq [[0,1],[2],[940,39]] ?_ ?_
 ·intro a h39 S
  refine gp [[3,1,1,54]] ?_; intro a S
  refine qY S (Jf S k_ rfl ((M.readRow 3 rfl (by grind [maxLen])).at_.row (i := k) hrow rfl 53 (by grind))) ?_
  refine gp [[0,1]] ?_; intro a S
  refine qK S rfl (Jf7 _ q.2 (b : Int) _ ((hws.ws M hes).wide (Nat.zero_le _) (Nat.le_refl _))) M ?_; intro a w2 S hK M
  refine qG [1, 1, 1] S ?_; intro a S
  refine qN S M Kj ?_; intro a w3 bV S M hB
  refine gi [[900,0],[0,1],[5,1,1],[2],[943,50]] ?_ ?_
  ·intro a w4 h50 S M
   refine gp [[5,1,1],[902,0,8]] ?_; intro a S
   refine qD S rfl (PxS.answer (PxS.closeL (L := [_]) hE hQ hI9 M) hf k q hq 0 _) ?_
   rintro _ w8 ⟨rfl, W1⟩
   refine gp [[4]] ?_; intro a S
   refine JV S rfl ?_
   (refine ⟨rfl, (show PxS _ _ _ _ (X.on C.self s.h k q) _ _ _ _ from ?_)⟩
    have W2 := W1.less (A' := A) (List.sublist_append_right _ _)
    have e : X.on C.self s.h k q = X.ans C.self k q 0 (onV s.h q) := by unfold Px.on; rw [if_pos (by first | exact h39 | omega)]
    rw [e]
    unfold onV
    rw [hb, Int.toNat_natCast]
    cases hg : J8 q.2 (b : Int) with
    | none => first | (rw [hg] at h50; cases h50; done) | exact W2
    | some v9 => first | (rw [hg] at h50; cases h50; done) | (rw [hg] at W2; exact W2))
  intro a w4 h50 S M
  refine gp [[2,1,1,5,2,1]] ?_; intro a S
  refine qK S rfl (zn b (s.h.getD b zV8) _ (M.ok _ (.tail _ hst)) hsl hhb) M ?_; intro a w5 S hK M
  refine go [[0,1,1,1],[900,0],[4,1,1],[902,0,8]] ?_; intro a w6 S M
  refine qD S rfl (PxS.answer (PxS.closeL (L := [_]) hE hQ hI9 M) hf k q hq 0 _) ?_
  rintro _ w7 ⟨rfl, W1⟩; refine rv_ ?_; intro a S
  replace S := S.keep [0, 1, 4, 5, 29, 39, 6, 7, 50]
  refine nxC (wp_ret (Yu (JV S rfl ?_)))
  (refine ⟨rfl, (show PxS _ _ _ _ (X.on C.self s.h k q) _ _ _ _ from ?_)⟩
   have W2 := W1.less (A' := A) (List.sublist_append_right _ _)
   have e : X.on C.self s.h k q = X.ans C.self k q 0 (onV s.h q) := by unfold Px.on; rw [if_pos (by first | exact h39 | omega)]
   rw [e]
   unfold onV
   rw [hb, Int.toNat_natCast]
   cases hg : J8 q.2 (b : Int) with
   | none => first | (rw [hg] at h50; cases h50; done) | exact W2
   | some v9 => first | (rw [hg] at h50; cases h50; done) | (rw [hg] at W2; exact W2))
 intro a h39 S
 refine go [[4],[910],[911,0,1,1,54]] ?_; intro a w9 S M
 refine kR 3 S rfl M (fun w M => Jf S k_ rfl ((M.readRow 3 rfl m_).at_.row (i := k) hrow rfl 53 (by show 53 < 54; omega))) ?_
 refine gp [[911,4,1,1,1,30,12]] ?_; intro a S
 refine kR 9 S rfl M (fun w M => Ja S k_ rfl rfl (((M.readRow 3 rfl m_).at_.row (i := k) hrow rfl).part (i := 40) (k := 8) rfl)) ?_; intro a S
 refine Jj 10 S rfl (fun w => JW (ps := [(0, .tmp 69), (1, .tmp 74)]) (pl := [(0, 1), (1, 8)]) (z := Wv) (cs := [_, _, _, _, _, _, _, _, _]) S k_ rfl (rfl)) ?_; intro a S
 refine k1_ 11 ?_
 refine qD S rfl (JdL va vc q.2 ⟨(b : Int), q.1.exec.val⟩ _ ((hws.ws M hes).wide (Nat.zero_le _) (Nat.le_refl _)) hw ⟨by show (0 : Int) ≤ (b : Int); omega, by show (b : Int) < 32; omega⟩) ?_
 rintro _ w10 ⟨ad, cp, lo1, hi1, n1, cs1, z, rfl, M1, hz⟩; refine rv_ ?_; intro a S; have hK := M1.below
 replace M := M.join M1; clear M1
 replace M := M.c_
 rw [← hb] at hz
 refine kH_ hK ?_
 refine gq [[911,12,1,1,1,1,1],[5,1,1],[2],[940,80]] ?_ ?_
 ·intro a h80 S
  refine gp [[3,1,1,1]] ?_; intro a S
  refine qY S (V5 (ps := []) (sz := 1) (z := Ki) (cs := [_, _, _, _, _, _, _, _]) S k_ rfl rfl) ?_; intro a S
  refine qD S rfl (PxS.answer (PxS.closeL (L := []) hE hQ hI9 (M.drop 0)) hf k q hq z zV8) ?_
  rintro _ w11 ⟨rfl, W1⟩
  refine gp [[4]] ?_; intro a S
  refine JV S rfl ?_
  (refine ⟨rfl, (show PxS _ _ _ _ (X.on C.self s.h k q) _ _ _ _ from ?_)⟩
   obtain ⟨rfl, hfull⟩ : z = 50 ∧ (YV q.2 q.1.exec.block = false ∧ 8 ≤ q.2.length) := by
    rcases hz with h | ⟨rfl, -⟩
    ·exact h
    ·exact absurd rfl h80
   have e : X.on C.self s.h k q = X.ans C.self k q 50 zV8 := by unfold Px.on; rw [if_neg o_, if_pos hfull]
   rw [e]; exact W1)
 intro a h80 S
 refine gp [[4]] ?_; intro a S
 obtain ⟨rfl, hno, rfl, rfl⟩ : z = 0 ∧ ¬ (YV q.2 q.1.exec.block = false ∧ 8 ≤ q.2.length) ∧ n1 = (VC q.2 ⟨q.1.exec.block, q.1.exec.val⟩).length ∧ cs1 = JM (VC q.2 ⟨q.1.exec.block, q.1.exec.val⟩) := by
  rcases hz with ⟨rfl, -⟩ | h
  ·exact absurd h80 d_
  ·exact h
 refine gp [[1,1,1,1,54]] ?_; intro a S
 refine Vh (v := .slice D.la X.lv.length D.lc) (sz := 54) (m := X.lv.length) (j := k * 54 + 53) (us := [.slice ad (VC q.2 ⟨q.1.exec.block, q.1.exec.val⟩).length cp]) S M 4 rfl k_ rfl rfl (by rfl) rfl rfl rfl rfl rfl o_ hcl (by rw [hcl]; show k * 54 + 53 + 1 ≤ _; omega) ?_; intro wz l1 h1 M
 replace M := M.e_
 replace M := M.od [4, 4, 4, 4]
 refine nxC ?_
 have hw9 : WrAt (.slice ad (VC q.2 ⟨q.1.exec.block, q.1.exec.val⟩).length cp) (onQ q).2 (Jd lo1 hi1 108 9 (.slice ad (VC q.2 ⟨q.1.exec.block, q.1.exec.val⟩).length cp) (VC q.2 ⟨q.1.exec.block, q.1.exec.val⟩).length (JM (VC q.2 ⟨q.1.exec.block, q.1.exec.val⟩)) :: es) := .inr ⟨ad, cp, lo1, hi1, rfl, .head _, Nat.le_trans (JfD (by unfold Jv at hw; simp at hw; omega)) o_⟩
 obtain ⟨hB9, hr9⟩ := (hI9.lv.mono (es' := Jd lo1 hi1 108 9 (.slice ad (VC q.2 ⟨q.1.exec.block, q.1.exec.val⟩).length cp) (VC q.2 ⟨q.1.exec.block, q.1.exec.val⟩).length (JM (VC q.2 ⟨q.1.exec.block, q.1.exec.val⟩)) :: es) (fun e he => .tail _ he)).put (q' := onQ q) (us := [.slice ad (VC q.2 ⟨q.1.exec.block, q.1.exec.val⟩).length cp]) (j := 53) (z := 54) rfl hk hrow hw9 (by show 53 + 1 ≤ 54; omega) (JgT _ _ _)
 have W9 := PxS.withL (ns := [_]) hE hQ hI9 hB9 List.length_set M
 refine gp [[1,1,1,1,1,30,12]] ?_; intro a S
 refine qY S (Ja S k_ rfl rfl (((M.readRow 4 rfl m_).at_.row (i := k) hr9 rfl).part (i := 40) (k := 8) rfl)) ?_; intro a S
 refine qD S rfl (W9.answer ⟨by show (X.lv.set _ _).length ≤ 1000; rw [List.length_set]; exact hf.lv, hf.ov, hf.ml, hf.el, hf.h, hf.wt⟩ k (onQ q) (List.getElem?_set_self hk) 0 q.1.exec.val) ?_
 rintro _ w12 ⟨rfl, W1⟩
 refine gp [[1]] ?_; intro a S
 refine JD S rfl ?_
 (refine ⟨rfl, (show PxS _ _ _ _ (X.on C.self s.h k q) _ _ _ _ from ?_)⟩
  have e : X.on C.self s.h k q = ({ X with lv := X.lv.set k (onQ q) } : Px).ans C.self k (onQ q) 0 q.1.exec.val := by unfold Px.on; rw [if_neg o_, if_neg hno]
  rw [e]; exact W1)
end
end Go.Proofs.YtocppoflhllelaaGreat
