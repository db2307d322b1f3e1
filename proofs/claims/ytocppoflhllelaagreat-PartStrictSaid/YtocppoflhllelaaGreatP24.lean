/-
  What PartStrict rests on, part 24.
-/
import Derived.Test.YtocppoflhllelaaGreatP21
namespace Go.Proofs.YtocppoflhllelaaGreat
open Go.RowKit Go.Sort
section
variable {l : List Lk} {us : List Value} {i o : Nat}
def vt (l : List Lk) (i : Nat) (x : Lk) : List Lk := l.take i ++ x :: l.drop i
theorem Qh (hi : i ≤ l.length) (x : Lk) : (vt l i x).length = l.length + 1 := by
 grind [vt]
theorem Ue (l : List Lk) (i : Nat) (x : Lk) : Jg (vt l i x) = Jg (l.take i) ++ (x.cellsL ++ Jg (l.drop i)) := by
 grind [vt, Jg]
theorem JfX (l : List Lk) (x : Lk) : vt l l.length x = l ++ [x] := by grind [vt]
theorem YF {l : List Value} (h : o + us.length ≤ l.length) : (l.take o ++ us ++ l.drop (o + us.length)).length = l.length := by
 grind
theorem JjH {l : List Value} (h : o + us.length ≤ l.length) : (l.take o ++ us ++ l.drop (o + us.length)).take (o + us.length) = l.take o ++ us := by
 grind
theorem Xi {A C more : List Value} (ho : A.length = o) (_ : o + us.length + C.length ≤ (A ++ more).length) :
 ((((A ++ more).take o ++ us ++ (A ++ more).drop (o + us.length)).take (o + us.length) ++ C ++ ((A ++ more).take o ++ us ++ (A ++ more).drop (o + us.length)).drop (o + us.length + C.length))).take (o + us.length + C.length) = A ++ (us ++ C) := by
 grind
theorem JaX {A C more : List Value} (ho : A.length = o) (h : o + us.length + C.length ≤ ((A ++ C) ++ more).length) :
 (((((A ++ C) ++ more).take (o + us.length) ++ C ++ ((A ++ C) ++ more).drop (o + us.length + C.length)).take o ++ us ++ (((A ++ C) ++ more).take (o + us.length) ++ C ++ ((A ++ C) ++ more).drop (o + us.length + C.length)).drop (o + us.length))).take (o + us.length + C.length) = A ++ (us ++ C) := by
 grind [List.take_left, List.drop_left]
theorem jw {g c : Nat} (h : i < c) : Yv (some ⟨g, 0, none⟩) i c 5 = some ⟨g, i * 5, none⟩ := by
 grind [Yv, Addr.add]
theorem Jaf (hi : i ≤ l.length) : (Jg l).drop (i * 5) = Jg (l.drop i) := by
 conv => lhs; rw [← List.take_append_drop i l, Vn]
 grind [J3]
theorem Gm : Jg l = Jg (l.take i) ++ Jg (l.drop i) := by
 rw [← Vn, List.take_append_drop]
abbrev zLk : List Value := [.int .i64 0, .int .i64 0, .int .i64 0, .int .i64 0, .bool false]
set_option maxHeartbeats 2000000 in
theorem Ud {wc w : World} {H : List Ent} {lo hi : Nat} {la : Option Addr} {lc bZ : Nat} {x : Lk} (M : Mem wc w (Jd lo hi 110 5 (.slice la l.length lc) l.length (Jg l) :: .blk bZ x.cellsL.toArray 110 :: H)) (hl : l.length ≤ 1000000) (hi' : i ≤ l.length) :
 CT 284 #[.slice la l.length lc, .int .i64 (i : Int), .slice (some ⟨bZ, 0, none⟩) 1 1] w fun e w' => ∃ la' lc' lo' hi', e = .returned (.slice la' (l.length + 1) lc') ∧ Mem wc w' (Jd lo' hi' 110 5 (.slice la' (l.length + 1) lc') (l.length + 1) (Jg (vt l i x)) :: .blk bZ x.cellsL.toArray 110 :: H) := by
 have hxl : x.cellsL.length = 5 := rfl
 have hAl : (Jg (l.take i)).length = i * 5 := by grind [J3]
 have hCl : (Jg (l.drop i)).length = (l.length - i) * 5 := by grind [J3]
 refine qI Tryz.func284 95 ?_
 refine gp [[2,1],[4,1,1]] ?_; intro a S
 refine qY S (jH (e := 110) (sz := 5) S k_ rfl (M.readAll 0 rfl (by grind [maxLen])) rfl o_) ?_
 refine gq [[4,1],[903,110],[0,1],[5,1,1],[2],[941,16],[5,1],[903,110],[0,1],[5,1,1,1],[2],[940,22]] ?_ ?_
 ·intro a h22 S
  refine gp [[3,1,1]] ?_; intro a S
  refine qP_ (e := 110) (sz := 5) (by_ := 40) (zc := cz9) S M 0 rfl rfl rfl (show Rd _ _ _ 5 _ 1 x.cellsL from M.sliceAt 1 rfl (M.cellsAt (k := 5) 1 rfl rfl) rfl (Nat.le_refl _) (by grind [maxLen])) ?_; intro a w1 vA loA hiA S M
  obtain ⟨aA, cA, rfl, -, -⟩ := (M.readAll 0 rfl (by grind [maxLen])).form
  refine qY S (JP S rfl) ?_
  refine gp [[4],[930]] ?_
  obtain rfl : i = l.length := by omega
  exact ⟨aA, cA, loA, hiA, rfl, by rw [JfX, Vn]; exact M⟩
 intro a h22 S
 refine gp [[5]] ?_; intro a S
 have hlt : i < l.length := by omega
 obtain ⟨gb, cap, more, hv, hc1, hc2, hc3, M1⟩ := M.ofRow o_
 clear M; have M := M1; clear M1
 injection hv with e1 e2 e3
 subst e1 e3
 have hne : bZ ≠ gb := by
  have := (List.pairwise_cons.1 M.apart).1 _ (List.mem_cons_self ..)
  rcases this with h | h <;> simp only [Ent.lo, Ent.hi] at h <;> omega
 have hlen : (Jg l ++ more).length = lc * 5 := hc3
 have hclA : ∀ (W : World), Blk W gb (Jg l ++ more).toArray 110 → CellsAt W gb (i * 5) (Jg (l.drop i)) := fun W B => by
  have := (Rd.of_blk B (J3 l) hc1 hc2 (by grind [J3])).at_
  simp only [adr] at this
  rw [← Jaf hi']
  intro j hj
  rw [List.length_drop] at hj
  have := this (i * 5 + j) o_
  grind
 have e5 : (i + 1) * 5 = i * 5 + x.cellsL.length := by omega
 have hil : (Jg (vt l i x)).length = (l.length + 1) * 5 := by rw [J3, Qh hi']
 have etot : i * 5 + x.cellsL.length + (Jg (l.drop i)).length = (l.length + 1) * 5 := by omega
 refine gp [[1,1,1],[901],[0,1]] ?_; intro a S
 refine qY S (JcU (E := 110) S rfl k_) ?_
 refine gq [[0,1],[2],[940,31]] ?_ ?_
 ·intro a h31 S
  refine gp [[3,1,1]] ?_; intro a S
  refine qY S (ZI (e := 110) (sz := 5) S k_ rfl rfl o_) ?_
  refine gp [[0,1,1],[901],[0,1],[901]] ?_; intro a S
  simp only [Int.toNat_natCast] at S
  rw [show ((l.length : Int) + ((1 : Nat) : Int) - (i : Int)) = ((l.length + 1 - i : Nat) : Int) by omega] at S
  refine QL (e := 110) (sz := 5) (by_ := 40) (zc := zLk) (kn := .i64) (xs := Jg (l.take i)) (k := l.length + 1 - i) S M 0 rfl rfl k_ k_ rfl d_ rfl rfl rfl (by rw [Gm (i := i), List.append_assoc, ← hAl]; exact List.take_left) hAl o_ o_ o_ m_ ?_
  intro a wz bN capN moreN S hcN hcN2 hlN M
  rw [show i + (l.length + 1 - i) = l.length + 1 by omega] at S hcN
  refine gp [[0,1],[4,1,1]] ?_; intro a S
  refine qY S (Vr (e := 110) (sz := 5) S k_ rfl rfl o_) ?_
  refine gp [[0,1]] ?_; intro a S
  simp only [Int.toNat_natCast] at S
  rw [jw o_] at S
  refine Zi (e := 110) (sz := 5) (us := x.cellsL) S M 0 rfl rfl k_ rfl rfl rfl (M.cellsAt (k := 5) 2 rfl rfl) (by rw [hxl]; simp only [Nat.min_def]; split <;> omega) rfl (by rw [hxl, hlN]; omega) ?_
  intro a wy S M
  replace M := M.s_
  replace S := S.keep [0, 1, 2, 6, 7, 16, 8, 22, 31, 9]
  refine go [[3],[910,8,8],[911,0,1,1,1]] ?_; intro a w2 S M
  (refine Jj 3 S rfl (fun w => Zo S rfl rfl o_) ?_); intro a S
  refine Jj 4 S rfl (fun w => Vr (e := 110) (sz := 5) S k_ rfl rfl o_) ?_
  refine gp [[911,5,1,1]] ?_; intro a S
  refine Jj 7 S rfl (fun w => Vr (e := 110) (sz := 5) S k_ rfl rfl o_) ?_; intro a S
  refine k1_ 8 ?_
  rw [show ((i : Int) + ((1 : Nat) : Int)).toNat = i + 1 by omega, Int.toNat_natCast, jw (show i < lc by omega), jw (show i + 1 < capN by omega)] at S
  refine Zi (e := 110) (sz := 5) (us := Jg (l.drop i)) S M 0 rfl rfl k_ rfl rfl rfl (hclA _ (M.blk 1 rfl)) (by rw [hCl]; simp only [Nat.min_def]; congr 1; split <;> omega) (jt _) (by rw [YF (by rw [hxl, hlN]; omega), hlN, hCl]; omega) ?_
  intro a wx S M
  replace M := M.s_
  refine kn_ ?_
  refine gp [[4,1,1],[4],[930]] ?_
  replace M := M.drp 1
  rw [e5] at M
  have hfit : i * 5 + x.cellsL.length + (Jg (l.drop i)).length ≤ (Jg (l.take i) ++ moreN).length := by rw [hlN, etot]; omega
  have h2 := YF (l := Jg (l.take i) ++ moreN) (us := x.cellsL) (o := i * 5) o_
  have M2 := M.toRow (sz := 5) (m := l.length + 1) (cap := capN) (xs := Jg (vt l i x)) 0 rfl hil hcN hcN2 (by rw [List.size_toArray, YF (by rw [h2]; omega), h2, hlN]) (by rw [List.toList_toArray, ← etot, Ue]; exact Xi hAl hfit)
  grind
 intro a h31 S
 refine gp [[5,1,1,1],[901]] ?_; intro a S
 refine qY S (ZI (e := 110) (sz := 5) S k_ rfl rfl o_) ?_; intro a S
 rw [show ((l.length : Int) + ((1 : Nat) : Int)).toNat = l.length + 1 by omega] at S
 refine qY S (JP S rfl) ?_
 refine gp [[5,1,1,1,1],[901]] ?_; intro a S
 refine qY S (Vr (e := 110) (sz := 5) S k_ rfl rfl o_) ?_; intro a S
 rw [show ((i : Int) + ((1 : Nat) : Int)).toNat = i + 1 by omega, jw (show i + 1 < lc by omega)] at S
 refine KK (e := 110) (size := 5) (tS := 28) (tR := 4) S M 1 0 Tryz.func331 k_ k_ k_ k_ k_ rfl rfl rfl rfl hne rfl rfl (by rw [List.size_toArray, hlen]; omega) ?_
 intro a S
 refine go [[0,1],[2],[942,68],[2],[910,8,8],[911,0,1,1,1]] ?_; intro a w3 S M
 (refine Jj 3 S rfl (fun w => Zo S rfl rfl o_) ?_); intro a S
 refine Jj 4 S rfl (fun w => Vr (e := 110) (sz := 5) S k_ rfl rfl o_) ?_
 refine gp [[911,5,1,1]] ?_; intro a S
 refine Jj 7 S rfl (fun w => Vr (e := 110) (sz := 5) S k_ rfl rfl o_) ?_; intro a S
 refine k1_ 8 ?_
 rw [show ((i : Int) + ((1 : Nat) : Int)).toNat = i + 1 by omega, Int.toNat_natCast, jw (show i < lc by omega), jw (show i + 1 < lc by omega)] at S
 refine Zi (e := 110) (sz := 5) (us := Jg (l.drop i)) S M 0 rfl rfl k_ rfl rfl rfl (hclA _ (M.blk 0 rfl)) (by rw [hCl]; simp only [Nat.min_def]; congr 1; split <;> omega) (jt _) (by rw [hlen, hCl]; omega) ?_
 intro a wx S M
 replace M := M.s_
 refine kn_ ?_
 refine gp [[4,1,1]] ?_; intro a S
 refine qY S (Vr (e := 110) (sz := 5) S k_ rfl rfl o_) ?_
 refine gp [[0,1]] ?_; intro a S
 simp only [Int.toNat_natCast] at S
 rw [jw (show i < lc by omega)] at S
 refine Zi (e := 110) (sz := 5) (us := x.cellsL) S M 0 rfl rfl k_ rfl rfl rfl (M.cellsAt (k := 5) 1 rfl rfl) (by rw [hxl]; simp only [Nat.min_def]; split <;> omega) rfl (by rw [YF (by rw [hlen, hCl]; omega), hlen, hxl]; omega) ?_
 intro a wy S M
 replace M := M.s_
 refine gp [[4,1,1],[4],[930]] ?_
 rw [e5, Gm (i := i)] at M
 rw [Gm (i := i)] at hlen
 have hfit : i * 5 + x.cellsL.length + (Jg (l.drop i)).length ≤ ((Jg (l.take i) ++ Jg (l.drop i)) ++ more).length := by rw [hlen, etot]; omega
 have h2 := YF (l := (Jg (l.take i) ++ Jg (l.drop i)) ++ more) (us := Jg (l.drop i)) (o := i * 5 + x.cellsL.length) hfit
 have M2 := M.toRow (sz := 5) (m := l.length + 1) (cap := lc) (xs := Jg (vt l i x)) 0 rfl hil o_ hc2 (by rw [List.size_toArray, YF (by rw [h2]; omega), h2, hlen]) (by rw [List.toList_toArray, ← etot, Ue]; exact JaX hAl hfit)
 grind
end
end Go.Proofs.YtocppoflhllelaaGreat
