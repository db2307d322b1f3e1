/-
  What PartStrict rests on, part 13.
-/
import Derived.Test.YtocppoflhllelaaGreatP11
namespace Go.Proofs.YtocppoflhllelaaGreat
open Go.RowKit Go.Sort
section
variable {es H : List Ent} {cs : List Value} {x : List Wr} {lo hi k b : Nat} {ps : Pl} {r : Rc} {s : St} {w0 w wc : World}
theorem St.split (dv : Value) : s.cellsL dv = s.pre ++ (Jo s.home ++ [dv, .int .i64 s.app]) := rfl
theorem St.setD (h : s.ok) (dv v : Value) : (s.cellsL dv).set 271 v = s.cellsL v := by
 have e : ∀ u, s.cellsL u = (s.pre ++ Jo s.home) ++ [u, .int .i64 s.app] := fun u => by grind [St.split]
 have hl : (s.pre ++ Jo s.home).length = 271 := by rw [List.length_append, St.pre_len h, h.hl]
 rw [e, e, List.set_append_right _ _ o_, hl]; rfl
theorem St.setO (h : s.ok) (dv : Value) (z : Int) : (s.cellsL dv).set 2 (.int .i64 z) = ({ s with owned := z } : St).cellsL dv := by
 unfold St.cellsL St.pre
 simp only [List.append_assoc]
 rw [List.set_append_right _ _ (by rw [h.l2]; omega), h.l2]; rfl
theorem St.getO (h : s.ok) (dv : Value) : (s.cellsL dv).toArray[2]? = some (.int .i64 s.owned) := by
 rw [List.getElem?_toArray]; unfold St.cellsL St.pre
 simp only [List.append_assoc]
 rw [List.getElem?_append_right (by rw [h.l2]; omega), h.l2]; rfl
def PrBk (cs : List Value) (ps : Pl) (es : List Ent) : Prop :=
 cs.length = ps.length * 6 ∧ Jp cs = true ∧ ∀ (i : Nat) (q : Pr × List Wr), ps[i]? = some q → ∃ ad cp lo hi, (cs.drop (i * 6)).take 6 = q.1.cellsL (.slice ad q.2.length cp) ∧ Jd lo hi 108 9 (.slice ad q.2.length cp) q.2.length (JM q.2) ∈ es ∧ q.2.length ≤ 1000000
theorem PrBk.nil : PrBk [] [] [] := ⟨rfl, rfl, fun i q hi => by grind⟩
theorem jm {l : List Value} (h : Jp l = true) (k : Nat) : Jp (l.take k) = true ∧ Jp (l.drop k) = true := by
 grind [List.take_append_drop, JJ]
theorem PrBk.more {q : Pr × List Wr} {ad : Option Addr} {cp : Nat} (h : PrBk cs ps es) (hl : q.2.length ≤ 1000000) :
 PrBk (cs ++ q.1.cellsL (.slice ad q.2.length cp)) (ps ++ [q]) (Jd lo hi 108 9 (.slice ad q.2.length cp) q.2.length (JM q.2) :: es) := by
 have h0 := h.1
 refine ⟨by grind, by rw [JJ, h.2.1]; rfl, fun i x hx => ?_⟩
 rcases Nat.lt_or_ge i ps.length with h1 | h1
 ·rw [List.getElem?_append_left h1] at hx
  obtain ⟨a', c', lo', hi', h2, h3, h4⟩ := h.2.2 i x hx
  grind
 grind
theorem PrBk.set {q : Pr × List Wr} {ad : Option Addr} {cp : Nat} (h : PrBk cs ps es) (hk : k < ps.length) (hl : q.2.length ≤ 1000000) :
 PrBk (cs.take (k * 6) ++ q.1.cellsL (.slice ad q.2.length cp) ++ cs.drop ((k + 1) * 6)) (ps.set k q) (Jd lo hi 108 9 (.slice ad q.2.length cp) q.2.length (JM q.2) :: es) := by
 have h0 := h.1
 have hlt : (cs.take (k * 6)).length = k * 6 := by grind
 refine ⟨?_, ?_, fun i x hx => ?_⟩
 ·grind
 ·rw [JJ, JJ, (jm h.2.1 _).1, (jm h.2.1 _).2]; rfl
 ·rw [List.getElem?_set] at hx
  by_cases hik : k = i
  ·subst hik
   rw [if_pos rfl, if_pos hk] at hx
   obtain rfl := Option.some.inj hx
   refine ⟨ad, cp, lo, hi, ?_, List.mem_cons_self .., hl⟩
   simp_all
  ·rw [if_neg hik] at hx
   obtain ⟨a', c', lo', hi', h2, h3, h4⟩ := h.2.2 i x hx
   have hi2 := (List.getElem?_eq_some_iff.1 hx).1
   refine ⟨a', c', lo', hi', ?_, List.mem_cons_of_mem _ h3, h4⟩
   rw [← h2]
   rcases Nat.lt_or_gt_of_ne hik with hlt2 | hlt2
   ·have hl2 : (cs.take (k * 6) ++ q.1.cellsL (.slice ad q.2.length cp)).length = (k + 1) * 6 := by grind
    rw [List.drop_append, hl2, List.drop_of_length_le o_, List.nil_append, List.drop_drop, show (k + 1) * 6 + (i * 6 - (k + 1) * 6) = i * 6 by omega]
   grind [List.drop_take]
theorem PrBk.del (h : PrBk cs ps es) (hk : k < ps.length) : PrBk (cs.take (k * 6) ++ cs.drop ((k + 1) * 6)) (ps.eraseIdx k) es := by
 have h0 := h.1
 have hlt : (cs.take (k * 6)).length = k * 6 := by grind
 refine ⟨?_, ?_, fun i x hx => ?_⟩
 ·grind
 ·rw [JJ, (jm h.2.1 _).1, (jm h.2.1 _).2]; rfl
 ·rw [List.getElem?_eraseIdx] at hx
  split at hx
  ·rename_i hik
   obtain ⟨a', c', lo', hi', h2, h3, h4⟩ := h.2.2 i x hx
   grind [List.drop_take]
  ·rename_i hik
   obtain ⟨a', c', lo', hi', h2, h3, h4⟩ := h.2.2 (i + 1) x hx
   refine ⟨a', c', lo', hi', ?_, h3, h4⟩
   rw [← h2, List.drop_append, hlt, List.drop_of_length_le o_, List.nil_append, List.drop_drop]
   grind
theorem PrBk.rows (h : PrBk cs ps es) (M : Mem w0 w H) (h2 : ∀ e ∈ es, e ∈ H) : ∀ (i : Nat) (q : Pr × List Wr), ps[i]? = some q → ∃ ad cp, (cs.drop (i * 6)).take 6 = q.1.cellsL (.slice ad q.2.length cp) ∧ Ws w0.heap.size w.heap.size w (.slice ad q.2.length cp) q.2 ∧ q.2.length ≤ 1000000 := fun i q hq => by
 obtain ⟨ad, cp, lo', hi', e, hmem, hx⟩ := h.2.2 i q hq
 have r2 := M.ok _ (h2 _ hmem) w (fun _ _ _ => rfl)
 have f2 := M.fits _ (h2 _ hmem)
 exact ⟨ad, cp, e, (Rd.of_row r2.1 r2.2 (by grind [maxLen])).wide f2.1 f2.2, hx⟩
theorem PrBk.prs {v : Value} (h : PrBk cs ps es) (M : Mem w0 w H) (h1 : Jd lo hi 57 6 v ps.length cs ∈ H) (h2 : ∀ e ∈ es, e ∈ H) (hm : ps.length ≤ maxLen) : PrsC cs w0.heap.size w.heap.size w v ps := by
 have r1 := M.ok _ h1 w (fun _ _ _ => rfl)
 have f1 := M.fits _ h1
 refine ⟨(Rd.of_row r1.1 r1.2 hm).wide f1.1 f1.2, fun i q hq => ?_⟩
 obtain ⟨ad, cp, e, hw, -⟩ := h.rows M h2 i q hq
 grind
theorem Jfu {v : Value} (M : Mem w0 w H) (h : Jd lo hi 108 9 v x.length (JM x) ∈ H) (hl : x.length ≤ 1000000) : Ws 0 w.heap.size w v x := by
 have r := M.ok _ h w (fun _ _ _ => rfl)
 exact (Rd.of_row r.1 r.2 (by grind [maxLen])).wide (Nat.zero_le _) (M.fits _ h).2
def WkM (wc w : World) (H : List Ent) (b : Nat) (s : St) (ps : Pl) : Prop := ∃ dv lo hi cs es, Mem wc w (.blk b (s.cellsL dv).toArray 266 :: Jd lo hi 57 6 dv ps.length cs :: (H ++ es)) ∧ PrBk cs ps es
def Y9 (s : St) (ps : Pl) (r : Rc) (x : List Wr) : St := { s with owned := Zw s.owned ps r, home := onF s.home (JL ps r x).2 }
theorem Jd8 (h : s.ok) (ps : Pl) (r : Rc) (x : List Wr) : (Y9 s ps r x).ok := ⟨h.l2, h.l12, by show (onF _ _).length = 32; rw [Ve]; exact h.lh, h.o2, h.o12⟩
def Gz (wc : World) (H : List Ent) (b : Nat) (s : St) (ps : Pl) (r : Rc) (x : List Wr) (e : Ending) (w' : World) : Prop := e = .returned (.tuple #[]) ∧ WkM wc w' H b (Y9 s ps r x) (JL ps r x).1
theorem Jec (hs : s.ok) (W : WkM wc w H b s ps) (r : Rc) (va : Option Addr) (vc : Nat) (x : List Wr) (hv : Ws 0 wc.heap.size wc (.slice va x.length vc) x) (hk : r.kind = 1) :
 CT 159 #[p_ b, .agg (r.cells (.slice va x.length vc))] w (Gz wc H b s ps r x) := by
 obtain ⟨dv, lo, hi, cs, es, M, hBk⟩ := W
 have hon : (Jo (onF s.home x)).length = 256 := by rw [JF, Ve, hs.lh]
 refine qI Tryz.func159 16 ?_
 refine gp [[2]] ?_; intro a S
 refine qW_ S M ?_; intro a w1 b1 S M hB
 refine go [[2],[910,12],[911,0,1,1,1,1,16]] ?_; intro a w2 S M
 refine kR 5 S rfl M (fun w M => Ja (k := 256) S k_ rfl (by exact hs.hl) (M.cellsMid 1 rfl (by exact St.pre_len hs))) ?_
 refine gp [[911,6,6,1]] ?_; intro a S
 refine k1_ 8 ?_
 refine qK S rfl (Jd1 s.home _ x _ hs.lh (M.argW hv)) M ?_; intro a w3 S hK M
 refine kH_ hK ?_
 refine gp [[911,9,1,1,16]] ?_; intro a S
 refine k1_ 12 ?_
 refine KJ (sz := 256) S M 1 rfl k_ rfl rfl rfl (by exact hon) (by exact Yi _) rfl (by exact St.pre_len hs) (by exact hs.hl) ?_; intro w4 M
 replace M := M.s_
 refine kn_ ?_
 refine gp [[1]] ?_; intro a S
 refine JD S rfl ?_
 refine ⟨rfl, dv, lo, hi, cs, es, ?_, by grind [JL]⟩
 have e : Y9 s ps r x = { s with home := onF s.home x } := by grind [Y9, Zw, JL]
 rw [e]
 unfold JL; rw [if_pos hk]
 exact M.drop 0
theorem zU (hk : r.kind = 2) (hf : JO r.name ps = some k) : JL ps r x = (ps.set k (V0 r, x), []) := by
 grind [JL]
theorem zV (hk : r.kind = 2) (hf : JO r.name ps = none) : JL ps r x = (ps ++ [(V0 r, x)], []) := by
 grind [JL]
theorem JgQ (hk : r.kind = 2) (h : (JL ps r x).2 = []) : Y9 s ps r x = s := by
 unfold Y9 Zw; rw [if_neg o_, h]; rfl
theorem JhB {more us : List Value} (hl : (k + 1) * 6 ≤ cs.length) (hu : us.length = 6) : Jt (cs ++ more) (k * 6) us = (cs.take (k * 6) ++ us ++ cs.drop ((k + 1) * 6)) ++ more := by
 grind [Yc]
set_option maxHeartbeats 1000000 in
theorem DV (hs : s.ok) (W : WkM wc w H b s ps) (hps : ps.length ≤ 10000) (r : Rc) (va : Option Addr) (vc : Nat) (x : List Wr) (hv : Ws 0 wc.heap.size wc (.slice va x.length vc) x) (hx : x.length ≤ 1000000) (hk : r.kind = 2) :
 CT 160 #[p_ b, .agg (r.cells (.slice va x.length vc))] w (Gz wc H b s ps r x) := by
 obtain ⟨dv, lo, hi, cs, es, M, hBk⟩ := W
 refine qI Tryz.func160 48 ?_
 refine gp [[2]] ?_; intro a S
 refine qW_ S M ?_; clear S M a; intro a w1 bX S M hB
 refine nxA (qG [2] S ?_); clear S a; intro a S
 refine qY S (qL3 S M 0) ?_; clear S a; intro a S
 refine qR [6, 1, 7, 1, 8, 1] S M ?_; clear S a; intro a S
 refine qB_ [(0, 3), (3, 1), (4, 1), (5, 1)] zy S ?_; clear S a; intro a S
 refine qD S rfl (Xx (V0 r) va vc x _ (M.argW hv) hx) ?_
 rintro _ w2 ⟨ad, cp, rfl, hF⟩; refine ⟨_, rfl, ?_⟩; clear S a; intro a S
 obtain ⟨lo1, hi1, -, M⟩ := M.pushFresh hF
 refine qN S M zz ?_; clear S M a; intro a w3 bP S M hB
 refine qS (sz := 6) (us := [_, _, _, _, _, _]) S M 0 ?_; clear M; intro w4 M
 refine nxC (wp_seq (wp_seq (YH [] #[false, false, false, false, false, false, false, false, false, false, false, false] rfl M k_ ?_))); clear M; intro w5 M
 refine kP 0 S ?_; clear S a; intro a S
 refine kP 1 S ?_; clear S a; intro a S
 refine kF 2 0 S ?_; clear S a; intro a S
 refine kR 3 S rfl M (fun w M => Ja (k := 273) (cs := _) S k_ rfl (by exact St.len hs _) (M.cellsAt 3 rfl JC)) ?_; clear S a; intro a S
 refine kF 4 1 S ?_; clear S a; intro a S
 refine kR 5 S rfl M (fun w M => qL3 S M 2) ?_; clear S a; intro a S
 refine k1_ 6 ?_
 refine qD S rfl (yQ s hs _ cs ps r.name _ ((hBk.prs M (List.mem_of_getElem? (show _[4]? = _ from rfl)) (fun e he => by grind) (by grind [maxLen])).wide (Nat.zero_le _) (Nat.le_refl _))) ?_
 rintro _ w6 ⟨k, y, rfl, hK, hy⟩; refine ⟨_, rfl, ?_⟩; clear S a; intro a S; replace M := M.grow hK
 refine kH_ hK ?_
 refine kP 7 S ?_; clear S a; intro a S
 refine kP 8 S ?_; clear S a; intro a S
 refine kP 9 S ?_; clear S a; intro a S
 refine kP 10 S ?_; clear S a; intro a S
 refine kP 11 S ?_; clear S a; intro a S
 refine gp [[1]] ?_; intro a S
 refine nxE (qG [1] S ?_); clear S a; intro a S
 refine nxC (Js (t := 27) S rfl ?_ ?_)
 ·clear S; intro h27 S
  refine cT S (wp_seq ?_)
  have hf : JO r.name ps = some k := by
   grind
  have hkl : k < ps.length := by grind [Kc]
  replace M := M.frn 4
  obtain ⟨g, cap, more, hvE, hc1, hc2, hc3, M1⟩ := M.ofRow o_
  subst hvE
  clear M
  have M := M1
  clear M1
  refine YH [8] #[false, false, false, false, false, false, false, false, false] rfl M k_ ?_; clear M; intro w7 M
  refine kP 0 S ?_; clear S a; intro a S
  refine kP 1 S ?_; clear S a; intro a S
  refine kF 2 0 S ?_; clear S a; intro a S
  refine kF 3 271 S ?_; clear S a; intro a S
  refine kR 4 S rfl M (fun w M => Jf S k_ rfl (M.cell 4 rfl (St.doubt hs _))) ?_; clear S a; intro a S
  refine kP 5 S ?_; clear S a; intro a S
  refine kR 6 S rfl M (fun w M => qL6 S M 1) ?_; clear S a; intro a S
  refine Jj 7 S rfl (fun w => yx (e := 57) (sz := 6) S k_ rfl rfl o_) ?_; clear S a; intro a S
  replace S := S.n_
  refine k1_ 8 ?_
  refine Ju (o := k * 6) (l := cs ++ more) (sz := 6) (us := (V0 r).cellsL (.slice ad x.length cp)) S M 0 rfl k_ rfl rfl rfl rfl rfl rfl (by grind) ?_; clear M; intro wz M
  simp only [List.set_cons_zero] at M
  refine kn_ ?_
  refine gp [[4]] ?_; intro a S
  refine JV S rfl ?_
  replace M := (M.drp 1).drp 2
  rw [JhB (by rw [hBk.1]; omega) rfl] at M
  have hBk' := hBk.set (q := (V0 r, x)) (ad := ad) (cp := cp) (lo := lo1) (hi := hi1) hkl hx
  have hl := hBk'.1
  rw [List.length_set] at hl
  have hl0 := hBk.1
  simp only at hl
  replace M := M.toRow (sz := 6) (m := ps.length) (cap := cap) (xs := cs.take (k * 6) ++ (V0 r).cellsL (.slice ad x.length cp) ++ cs.drop ((k + 1) * 6)) 0 rfl hl hc1 hc2 (by grind) (by grind)
  refine ⟨rfl, .slice (some ⟨g, 0, none⟩) ps.length cap, g, g + 1, cs.take (k * 6) ++ (V0 r).cellsL (.slice ad x.length cp) ++ cs.drop ((k + 1) * 6), Jd lo1 hi1 108 9 (.slice ad x.length cp) x.length (JM x) :: es, ?_, by grind [zU]⟩
  rw [JgQ hk (by rw [zU hk hf]), zU hk hf, List.length_set]
  exact (M.front 2 rfl).perm ((List.perm_middle.symm.cons _).cons _)
 clear S; intro h27 S
 refine gp [[3]] ?_; intro a S
 have hf : JO r.name ps = none := by
  grind
 refine YH [8, 12] #[false, false, false, false, false, false, false, false, false, false, false, false, false] rfl M k_ ?_; clear M; intro w8 M
 refine kP 0 S ?_; clear S a; intro a S
 refine kP 1 S ?_; clear S a; intro a S
 refine kP 2 S ?_; clear S a; intro a S
 refine kF 3 0 S ?_; clear S a; intro a S
 refine kF 4 271 S ?_; clear S a; intro a S
 refine kR 5 S rfl M (fun w M => Jf S k_ rfl (M.cell 3 rfl (St.doubt hs _))) ?_; clear S a; intro a S
 refine kR 6 S rfl M (fun w M => qL6 S M 0) ?_; clear S a; intro a S
 refine k1_ 7 ?_
 refine JG (ps := [(0, .tmp 42)]) (e := 57) (sz := 6) (zl := zy) (cs := [_, _, _, _, _, _]) S M rfl rfl k_ rfl (rfl) ?_; clear S M a; intro a w9 bZ S M hB
 refine kH_ hB ?_
 refine k1_ 8 ?_
 refine qP_ (e := 57) (sz := 6) (by_ := 64) (zc := zy) S M 5 rfl rfl rfl (show Rd _ _ _ 6 _ 1 ((V0 r).cellsL (.slice ad x.length cp)) from M.sliceAt 0 rfl (M.cellsAt (k := 6) 0 rfl rfl) rfl (Nat.le_refl _) (by grind [maxLen])) ?_; clear S M a; intro a w10 vA loA hiA S M
 refine kn_ ?_
 refine kP 9 S ?_; clear S a; intro a S
 refine kF 10 0 S ?_; clear S a; intro a S
 refine kF 11 271 S ?_; clear S a; intro a S
 refine k1_ 12 ?_
 obtain ⟨aA, cA, rfl, -, -⟩ := (M.readAll 0 rfl (by grind [maxLen])).form
 refine Ju (sz := 1) (us := [_]) S M 5 rfl k_ rfl rfl rfl rfl rfl rfl (by grind [St.len]) ?_; clear M; intro w11 M
 simp only [Jt, List.set_cons_succ, Nat.reduceAdd] at M
 refine kn_ ?_
 refine gp [[1]] ?_; intro a S
 refine JD S rfl ?_
 replace M := ((M.drp 1).drp 1).drp 2
 replace M := M.frn 2
 rw [St.setD hs] at M
 have hBk' := hBk.more (q := (V0 r, x)) (ad := ad) (cp := cp) (lo := lo1) (hi := hi1) hx
 refine ⟨rfl, .slice aA (ps.length + 1) cA, loA, hiA, cs ++ (V0 r).cellsL (.slice ad x.length cp), Jd lo1 hi1 108 9 (.slice ad x.length cp) x.length (JM x) :: es, ?_, by grind [zV]⟩
 rw [JgQ hk (by rw [zV hk hf]), zV hk hf, List.length_append (bs := [(V0 r, x)])]
 exact M.perm ((List.perm_middle.symm.cons _).cons _)
theorem Z1 {q : Pr × List Wr} (hk : r.kind = 3) (hf : JO r.name ps = some k) (hq : ps[k]? = some q) : JL ps r x = (ps.eraseIdx k, if r.yes then q.2 else []) := by
 grind [JL]
theorem zT (hk : r.kind = 3) (hf : JO r.name ps = none) : JL ps r x = (ps, []) := by
 grind [JL]
theorem JbH (hk : r.kind = 3) (hf : JO r.name ps = none) : Y9 s ps r x = s := by
 unfold Y9 Zw; rw [zT hk hf, hf]; simp [onF]
theorem JfS {q : Pr × List Wr} (hk : r.kind = 3) (hf : JO r.name ps = some k) (hq : ps[k]? = some q) (hy : r.yes = false) : Y9 s ps r x = s := by
 unfold Y9 Zw; rw [Z1 hk hf hq, hy]; simp [onF]
theorem Jd9 {q : Pr × List Wr} (hk : r.kind = 3) (hf : JO r.name ps = some k) (hq : ps[k]? = some q) (hy : r.yes = true) : Y9 s ps r x = { s with home := onF s.home q.2, owned := orV (Z9 s.owned q.1.give) q.1.take } := by
 unfold Y9 Zw; rw [Z1 hk hf hq, if_pos ⟨hk, hy⟩, hf]; grind
set_option maxHeartbeats 1000000 in
theorem E8 (hs : s.ok) (W : WkM wc w H b s ps) (hps : ps.length ≤ 10000) (r : Rc) (va : Option Addr) (vc : Nat) (x : List Wr) (hk : r.kind = 3) :
 CT 161 #[p_ b, .agg (r.cells (.slice va x.length vc))] w (Gz wc H b s ps r x) := by
 obtain ⟨dv, lo, hi, cs, es, M, hBk⟩ := W
 obtain ⟨da, dc, rfl, -, -⟩ := (M.readRow 1 rfl m_).form
 refine qI Tryz.func161 71 ?_
 refine gp [[2]] ?_; intro a S
 refine qW_ S M ?_; clear S M a; intro a w1 bX S M hB
 refine nxC (wp_seq (YH [] #[false, false, false, false, false, false, false, false, false, false, false, false] rfl M k_ ?_)); clear M; intro w2 M
 refine kP 0 S ?_; clear S a; intro a S
 refine kP 1 S ?_; clear S a; intro a S
 refine kF 2 0 S ?_; clear S a; intro a S
 refine kR 3 S rfl M (fun w M => Ja (k := 273) (cs := _) S k_ rfl (by exact St.len hs _) (M.cellsAt 1 rfl JC)) ?_; clear S a; intro a S
 refine kF 4 1 S ?_; clear S a; intro a S
 refine kR 5 S rfl M (fun w M => qL3 S M 0) ?_; clear S a; intro a S
 refine k1_ 6 ?_
 refine qD S rfl (yQ s hs _ cs ps r.name _ ((hBk.prs M (List.mem_of_getElem? (show _[2]? = _ from rfl)) (fun e he => by simp [he]) m_).wide (Nat.zero_le _) (Nat.le_refl _))) ?_
 rintro _ w3 ⟨k, y, rfl, hK, hy⟩; refine ⟨_, rfl, ?_⟩; clear S a; intro a S; replace M := M.grow hK
 refine kH_ hK ?_
 refine kP 7 S ?_; clear S a; intro a S
 refine kP 8 S ?_; clear S a; intro a S
 refine kP 9 S ?_; clear S a; intro a S
 refine kP 10 S ?_; clear S a; intro a S
 refine kP 11 S ?_; clear S a; intro a S
 refine kE_ ?_
 refine Jn (wp_seq (nxD (qG [1, 1] S ?_))); clear S a; intro a S
 refine nxC (Js (t := 18) S rfl ?_ ?_)
 ·clear S; intro h18 S
  refine cT S (wp_ret (Yu (JV S rfl ?_)))
  replace M := M.drp 0
  have hf : JO r.name ps = none := by
   rcases hy with ⟨h, -⟩ | ⟨-, -, h⟩
   ·exfalso; rw [h] at h18; simp at h18
   ·exact h
  exact ⟨rfl, _, lo, hi, cs, es, by rw [JbH hk hf, zT hk hf]; exact M, by rw [zT hk hf]; exact hBk⟩
 clear S; intro h18 S
 refine cF S (wp_skip (Jn (wp_seq ?_)))
 have hf : JO r.name ps = some k := by
  rcases hy with ⟨-, h⟩ | ⟨h, -⟩
  ·exact h
  ·exfalso; rw [h] at h18; simp at h18
 obtain ⟨q, hq⟩ := Kc hf
 have hkl : k < ps.length := (List.getElem?_eq_some_iff.1 hq).1
 obtain ⟨qa, qc, qlo, qhi, hrow, hmem, hql⟩ := hBk.2.2 k q hq
 have hB0 := hBk.1
 refine wp_region_lit (qG [1, 1, 1, 272] S ?_); clear S a; intro a S
 refine qY S (Jf S k_ rfl (M.cell 1 rfl (St.doubt hs _))) ?_; clear S a; intro a S
 refine qG [1] S ?_; clear S a; intro a S
 refine qY S (qX 57 6 S (M.readRow 2 rfl m_)) ?_; clear S a; intro a S
 replace S := S.n_
 refine qY S (Ja S k_ rfl rfl ((M.readRow 2 rfl m_).at_.row (i := k) hrow rfl)) ?_; clear S a; intro a S
 refine qN S M zz ?_; clear S M a; intro a w4 bP S M hB
 refine qS (sz := 6) (us := [_, _, _, _, _, _]) S M 0 ?_; clear M; intro w5 M
 replace S := S.keep [0, 1, 3, 4, 5, 18, 6]
 refine nxC (wp_seq ?_)
 replace M := M.frn 3
 obtain ⟨g, cap, more, hvE, hc1, hc2, hc3, M1⟩ := M.ofRow o_
 simp only [Value.slice.injEq] at hvE
 obtain ⟨rfl, -, rfl⟩ := hvE
 clear M
 have M := M1
 clear M1
 refine wp_region_lit (qG [1, 1, 1, 1, 272] S ?_); clear S a; intro a S
 refine qY S (Jf S k_ rfl (M.cell 3 rfl (St.doubt hs _))) ?_; clear S a; intro a S
 refine qG [1, 1] S ?_; clear S a; intro a S
 refine qA S ?_; clear S a; intro a S
 refine qD S rfl (Jcd M hB0 (jm hBk.2.1 _).2 hc3 hc1 hc2 hkl) ?_
 rintro _ w6 ⟨rfl, more2, hm2, M1⟩; refine ⟨_, rfl, ?_⟩; clear S a; intro a S; replace M := M1; clear M1
 refine qG [1, 1, 272] S ?_; clear S a; intro a S
 refine Ju (sz := 1) (us := [_]) S M 3 rfl k_ rfl rfl rfl rfl rfl rfl (by rw [St.len hs]; exact (by decide : 272 ≤ 273)) ?_; clear M; intro w7 M
 simp only [Jt, List.set_cons_zero, List.set_cons_succ, Nat.reduceAdd] at M
 refine nxC (wp_seq ?_)
 rw [St.setD hs] at M
 have hon : (Jo (onF s.home q.2)).length = 256 := by rw [JF, Ve, hs.lh]
 have hs2 : ({ s with home := onF s.home q.2 } : St).ok := ⟨hs.l2, hs.l12, by show (onF _ _).length = 32; rw [Ve]; exact hs.lh, hs.o2, hs.o12⟩
 refine wp_region_lit (qR [5, 3] S M ?_); clear S a; intro a S
 replace S := S.keep [0, 1, 3, 4, 5, 18, 6, 41]
 refine nxC (Jm (t := 41) S rfl ?_ ?_)
 ·clear S; intro h41 S
  refine cF S (wp_skip (JD S rfl ?_))
  replace M := (M.drp 1).drp 1
  have hBk' := hBk.del hkl
  have hl := hBk'.1
  have hle : (ps.eraseIdx k).length = ps.length - 1 := by rw [List.length_eraseIdx, if_pos hkl]
  rw [hle] at hl
  replace M := M.toRow (sz := 6) (m := ps.length - 1) (cap := dc) (xs := cs.take (k * 6) ++ cs.drop ((k + 1) * 6)) 0 rfl hl o_ hc2 (by rw [List.size_toArray, hm2]) (by rw [List.toList_toArray, ← hl]; exact List.take_left)
  refine ⟨rfl, .slice (some ⟨g, 0, none⟩) (ps.length - 1) dc, g, g + 1, cs.take (k * 6) ++ cs.drop ((k + 1) * 6), es, ?_, by rw [Z1 hk hf hq]; exact hBk'⟩
  (rw [JfS hk hf hq h41, Z1 hk hf hq, hle]; exact M.front 1 rfl)
 clear S; intro h41 S
 refine cT S (wp_seq (YH [12] #[false, false, false, false, false, false, false, false, false, false, false, false, false] rfl M k_ ?_)); clear M; intro w8 M
 refine kP 0 S ?_; clear S a; intro a S
 refine kP 1 S ?_; clear S a; intro a S
 refine kP 2 S ?_; clear S a; intro a S
 refine kF 3 0 S ?_; clear S a; intro a S
 refine kF 4 15 S ?_; clear S a; intro a S
 refine kR 5 S rfl M (fun w M => Ja (k := 256) S k_ rfl (by exact hs.hl) (M.cellsMid 3 rfl (by exact St.pre_len hs))) ?_; clear S a; intro a S
 refine kF 6 3 S ?_; clear S a; intro a S
 refine kR 7 S rfl M (fun w M => qV S M 1) ?_; clear S a; intro a S
 refine k1_ 8 ?_
 refine qK S rfl (Jd1 s.home _ q.2 _ hs.lh (Jfu (lo := qlo) (hi := qhi) M (by simp [hmem]) hql)) M ?_; clear S M a; intro a w9 S hK M
 refine kH_ hK ?_
 refine kP 9 S ?_; clear S a; intro a S
 refine kF 10 0 S ?_; clear S a; intro a S
 refine kF 11 15 S ?_; clear S a; intro a S
 refine k1_ 12 ?_
 refine KJ (sz := 256) S M 3 rfl k_ rfl rfl rfl (by exact hon) (by exact Yi _) rfl (by exact St.pre_len hs) (by exact hs.hl) ?_; clear M; intro w10 M
 replace M := M.s_
 refine kn_ ?_
 refine gp [[2]] ?_; intro a S
 rw [show s.pre ++ ((Value.agg (Jo (onF s.home q.2)).toArray).cells.toList ++ [Value.slice (some ⟨g, 0, none⟩) (ps.length - 1) dc, Value.int .i64 s.app]) = ({ s with home := onF s.home q.2 } : St).cellsL (.slice (some ⟨g, 0, none⟩) (ps.length - 1) dc) from rfl] at M
 refine YH [17] #[false, false, false, false, false, false, false, false, false, false, false, false, false, false, false, false, false, false] rfl M k_ ?_; clear M; intro w11 M
 refine kP 0 S ?_; clear S a; intro a S
 refine kP 1 S ?_; clear S a; intro a S
 refine kP 2 S ?_; clear S a; intro a S
 refine kF 3 0 S ?_; clear S a; intro a S
 refine kF 4 0 S ?_; clear S a; intro a S
 refine kF 5 2 S ?_; clear S a; intro a S
 refine kR 6 S rfl M (fun w M => Jf S k_ rfl (M.cell 3 rfl (St.getO hs2 _))) ?_; clear S a; intro a S
 refine kF 7 4 S ?_; clear S a; intro a S
 refine kR 8 S rfl M (fun w M => qV S M 1) ?_; clear S a; intro a S
 refine Jj 9 S rfl (fun w => Do S rfl rfl) ?_; clear S a; intro a S
 refine kF 10 5 S ?_; clear S a; intro a S
 refine kR 11 S rfl M (fun w M => qV S M 1) ?_; clear S a; intro a S
 (refine Jj 12 S rfl (fun w => J2 S rfl rfl rfl) ?_); clear S a; intro a S
 refine kP 13 S ?_; clear S a; intro a S
 refine kF 14 0 S ?_; clear S a; intro a S
 refine kF 15 0 S ?_; clear S a; intro a S
 refine kF 16 2 S ?_; clear S a; intro a S
 refine k1_ 17 ?_
 refine Ju (sz := 1) (us := [_]) S M 3 rfl k_ rfl rfl rfl rfl rfl rfl (by rw [St.len hs2]; exact (by decide : 3 ≤ 273)) ?_; clear M; intro w12 M
 simp only [Jt, List.set_cons_zero, List.set_cons_succ, Nat.reduceAdd] at M
 refine kn_ ?_
 refine gp [[1]] ?_; intro a S
 refine JD S rfl ?_
 replace M := (M.drp 1).drp 1
 have hBk' := hBk.del hkl
 have hl := hBk'.1
 have hle : (ps.eraseIdx k).length = ps.length - 1 := by rw [List.length_eraseIdx, if_pos hkl]
 rw [hle] at hl
 replace M := M.toRow (sz := 6) (m := ps.length - 1) (cap := dc) (xs := cs.take (k * 6) ++ cs.drop ((k + 1) * 6)) 0 rfl hl o_ hc2 (by rw [List.size_toArray, hm2]) (by rw [List.toList_toArray, ← hl]; exact List.take_left)
 refine ⟨rfl, .slice (some ⟨g, 0, none⟩) (ps.length - 1) dc, g, g + 1, cs.take (k * 6) ++ cs.drop ((k + 1) * 6), es, ?_, by rw [Z1 hk hf hq]; exact hBk'⟩
 (rw [Jd9 hk hf hq h41, Z1 hk hf hq, hle]; rw [St.setO hs2] at M; exact M.front 1 rfl)
end
def Jhf (_ : St) (ps : Pl) (w w' : World) (dv : Value) : Prop := ∃ lo hi cs es, Mem w w' (Jd lo hi 57 6 dv ps.length cs :: es) ∧ PrBk cs ps es
def Je3 (s : St) (ps : Pl) (w : World) (e : Ending) (w' : World) : Prop := ∃ dv, e = .returned (.agg (s.cellsL dv).toArray) ∧ Jhf s ps w w' dv
theorem zR {α : Type} {l : List α} {k : Nat} {x : α} (h : l[k]? = some x) : l.take (k + 1) = l.take k ++ [x] := by
 grind [List.take_succ_eq_append_getElem]
abbrev zPr : List Value := [.int .i64 0, .int .i64 0, .int .i64 0, .slice none 0 0, .int .i64 0, .int .i64 0]
set_option maxHeartbeats 1000000 in
theorem Xw (s : St) (hs : s.ok) (dv : Value) (cs : List Value) (ps : Pl) (w : World) (hd : PrsC cs 0 w.heap.size w dv ps) (hps : ps.length ≤ 10000) (hws : ∀ (i : Nat) (q : Pr × List Wr), ps[i]? = some q → q.2.length ≤ 1000000) :
 CT 158 #[.agg (s.cellsL dv).toArray] w (Je3 s ps w) := by
 have M := Mem.start w
 refine qI Tryz.func158 27 ?_; intro a S
 refine nxD (VA S M rfl rfl rfl _ rfl ?_); intro a w1 bS S M hB
 refine qN S M (zSt.cellsL (.slice none 0 0)).toArray ?_; intro a w2 bR S M hB
 refine gp [[4,272]] ?_; intro a S
 refine qY S (Jf S k_ rfl (M.cell 1 rfl (St.doubt hs dv))) ?_; intro a S
 refine qY S (Ys (E := 57) S rfl ((M.prs hd).1) k_) ?_; intro a S
 refine Z2 (e := 57) (sz := 6) (by_ := 64) (zc := zy) S M rfl rfl k_ rfl rfl o_ o_ o_ o_ ?_; intro a w3 bL S M hB
 try simp only [Int.toNat_natCast] at S M
 refine gp [[0,1],[5,272]] ?_; intro a S
 refine qY S (Jf S k_ rfl (M.cell 2 rfl (St.doubt hs dv))) ?_; intro a S
 refine qY S (Ys (E := 57) S rfl ((M.prs hd).1) k_) ?_
 refine gp [[0,1],[3]] ?_; intro a S
 refine Jc (fun m a w' => ∃ (k : Nat), k ≤ ps.length ∧ m = ps.length - k ∧ Jk 27 a [(1, p_ bS), (2, p_ bR), (3, .slice (some ⟨bL, 0, none⟩) ps.length ps.length), (11, dv), (12, .int .i64 (ps.length : Int)), (13, .int .i64 (k : Int))] ∧ ∃ ck zk es, Mem w w' (.blk bL (ck ++ zk).toArray 57 :: .blk bR (zSt.cellsL (.slice none 0 0)).toArray 99 :: .blk bS (s.cellsL dv).toArray 99 :: es) ∧ PrBk ck (ps.take k) es ∧ zk.length = (ps.length - k) * 6) (ps.length) ?_ ?_
 ·skip
  exact ⟨0, Nat.zero_le _, rfl, S.sub _ rfl, [], y7 zPr (ps.length * 6), [], M, PrBk.nil, by rw [Yz]; rfl⟩
 intro m a wl
 rintro ⟨k, hk, rfl, S, ck, zk, es, M, hBk, hz⟩
 refine gq [[2,1],[3],[943,14]] ?_ ?_
 ·intro a h14 S
  refine gp [[7]] ?_; intro a S
  obtain rfl : k = ps.length := by omega
  rw [List.take_length] at hBk
  obtain rfl : zk = [] := List.eq_nil_of_length_eq_zero o_
  rw [List.append_nil] at M
  refine gp [[1,1,272]] ?_; intro a S
  refine Ju (sz := 1) (us := [_]) S M 2 rfl k_ rfl rfl rfl rfl rfl rfl (by grind [St.len]) ?_; intro w7 M
  simp only [Jt, List.set_cons_zero, List.set_cons_succ, Nat.reduceAdd] at M
  refine nxC (wp_seq ?_)
  rw [St.setD hs] at M
  refine wp_region_lit (qY S (Ja (k := 273) (cs := _) S k_ rfl (by exact St.len hs _) (M.cellsAt 2 rfl JC)) ?_); intro a S
  refine JN (sz := 273) S M 1 rfl k_ rfl rfl (by exact St.len hs _) (by exact St.one hs _ rfl) rfl (by exact St.len JH _) ?_; intro w8 M
  replace M := M.s_
  refine nxC (wp_ret (Vb S rfl (Y8 (k := 273) (cs := _) k_ rfl (by exact St.len hs _) (M.cellsAt 1 rfl JC)) ?_))
  replace M := (M.drp 1).drp 1
  replace M := M.toRow (sz := 6) (m := ps.length) (cap := ps.length) (xs := ck) 0 rfl hBk.1 (Nat.le_refl _) (by grind [maxLen]) (by rw [List.size_toArray, hBk.1]) (by rw [List.toList_toArray, ← hBk.1, List.take_length])
  exact ⟨_, rfl, _, _, ck, es, M, hBk⟩
 intro a h14 S
 refine gp [[7]] ?_; intro a S
 have hk' : k < ps.length := by omega
 obtain ⟨q, hq⟩ : ∃ q, ps[k]? = some q := ⟨_, List.getElem?_eq_getElem hk'⟩
 obtain ⟨ad, cp, hrow, hw⟩ := hd.sl hq
 refine qY S (Vz S rfl) ?_; intro a S
 refine qY S (qX 57 6 S ((M.prs hd).1)) ?_; intro a S
 replace S := S.n_
 refine qY S (Ja S k_ rfl rfl ((M.prs hd).1.at_.row (i := k) hrow rfl)) ?_; intro a S
 refine qN S M zz ?_; intro a w4 bP S M hB
 refine go [[0,1],[900,0],[3,1,1],[902,0,6]] ?_; intro a w5 S M
 refine qD S rfl (Xx q.1 ad cp q.2 _ (M.argW hw) (hws k q hq)) ?_
 rintro _ w6 ⟨ad2, cp2, rfl, hF⟩; refine rv_ ?_; intro a S
 obtain ⟨lo1, hi1, -, M⟩ := M.pushFresh hF
 refine qY S (yx (e := 57) (sz := 6) S k_ rfl rfl o_) ?_; intro a S
 replace S := S.n_
 have hck : ck.length = k * 6 := by rw [hBk.1, List.length_take, Nat.min_eq_left hk]
 refine Ju (o := k * 6) (l := ck ++ zk) (sz := 6) (us := q.1.cellsL (.slice ad2 q.2.length cp2)) S M 2 rfl k_ rfl rfl rfl rfl rfl rfl (by grind) ?_; intro wz M
 replace M := M.s_
 refine gp [[4],[901],[0,1],[2]] ?_; intro a S
 replace M := M.drp 1
 replace M := M.od [3, 3, 3]
 have hBk' := hBk.more (q := q) (ad := ad2) (cp := cp2) (lo := lo1) (hi := hi1) (hws k q hq)
 rw [← zR hq] at hBk'
 have e : Jt (ck ++ zk) (k * 6) (q.1.cellsL (.slice ad2 q.2.length cp2)) = (ck ++ q.1.cellsL (.slice ad2 q.2.length cp2)) ++ zk.drop 6 := by
  rw [Yc _ _ _ (by rw [List.length_append, hck, hz]; show k * 6 + 6 ≤ _; omega), ← hck, List.take_left]
  congr 1
  grind [List.drop_append, List.drop_of_length_le]
 rw [e] at M
 exact ⟨ps.length - (k + 1), by omega, k + 1, by omega, rfl, S.sub _ rfl, _, zk.drop 6, _, M, hBk', by rw [List.length_drop, hz]; omega⟩
end Go.Proofs.YtocppoflhllelaaGreat
