/-
  What PartStrict rests on, part 29.
-/
import Derived.Test.YtocppoflhllelaaGreatP25
namespace Go.Proofs.YtocppoflhllelaaGreat
open Go.RowKit Go.Sort
section
def Zx : List Lk → Nat → Int → List Int
 | [], _, _ => []
 | x :: l, s, k => (if x.block = k then [(s : Int)] else []) ++ Zx l (s + 1) k
abbrev Wj (l : List Lk) (k : Int) : List Int := Zx l 0 k
theorem KS : ∀ (l m : List Lk) (s : Nat) (k : Int), Zx (l ++ m) s k = Zx l s k ++ Zx m (s + l.length) k
 | [], m, s, k => by simp [Zx]
 | x :: l, m, s, k => by
   rw [List.cons_append, Zx, Zx, KS l m, List.append_assoc, List.length_cons, show s + 1 + l.length = s + (l.length + 1) by omega]
theorem Jeg (l : List Lk) (x : Lk) (k : Int) : Wj (l ++ [x]) k = Wj l k ++ if x.block = k then [(l.length : Int)] else [] := by
 grind [KS, Zx]
theorem Eh : ∀ (l : List Lk) (i s : Nat) (k : Int) (q q' : Lk), l[i]? = some q → q'.block = q.block → Zx (l.set i q') s k = Zx l s k
 | [], i, s, k, q, q', h, _ => by grind
 | x :: l, 0, s, k, q, q', h, e => by
   grind [Zx]
 | x :: l, i + 1, s, k, q, q', h, e => by
   rw [List.getElem?_cons_succ] at h
   rw [List.set_cons_succ, Zx, Zx, Eh l i (s + 1) k q q' h e]
theorem Qi : ∀ (l : List Lk) (s : Nat) (k : Int), (Zx l s k).length = (l.filter fun q => q.block == k).length
 | [], s, k => rfl
 | x :: l, s, k => by
   rw [Zx, List.length_append, Qi l, List.filter_cons]
   grind
theorem Ei : ∀ (l : List Lk) (s : Nat) (k : Int) (z : Int), z ∈ Zx l s k → ∃ (j : Nat) (q : Lk), z = ((s + j : Nat) : Int) ∧ l[j]? = some q ∧ q.block = k
 | [], s, k, z, h => by cases h
 | x :: l, s, k, z, h => by
   rw [Zx, List.mem_append] at h
   rcases h with h | h
   ·by_cases e : x.block = k
    ·rw [if_pos e] at h
     rw [List.mem_singleton.1 h]
     exact ⟨0, x, rfl, rfl, e⟩
    grind
   ·obtain ⟨j, q, h1, h2, h3⟩ := Ei l (s + 1) k z h
    exact ⟨j + 1, q, by omega, by grind, h3⟩
theorem Jeh {l : List Lk} {k z : Int} (h : (Wj l k)[0]? = some z) : ∃ (j : Nat) (q : Lk), z = (j : Int) ∧ l[j]? = some q ∧ q.block = k := by
 obtain ⟨j, q, h1, h2, h3⟩ := Ei l 0 k z (List.mem_of_getElem? h)
 grind
def jz : List Lk → Nat → PlL → Int
 | [], _, _ => 0
 | x :: l, s, p => if x.pl = p then ((s + 1 : Nat) : Int) else jz l (s + 1) p
abbrev Yw (l : List Lk) (p : PlL) : Int := jz l 0 p
theorem W6 : ∀ (l : List Lk) (s : Nat) (p : PlL), (jz l s p = 0 ∧ ∀ q ∈ l, q.pl ≠ p) ∨ ∃ (i : Nat) (q : Lk), jz l s p = ((s + i + 1 : Nat) : Int) ∧ l[i]? = some q ∧ q.pl = p
 | [], s, p => .inl ⟨rfl, fun q h => (by cases h)⟩
 | x :: l, s, p => by
   unfold jz
   by_cases e : x.pl = p
   ·rw [if_pos e]; exact .inr ⟨0, x, rfl, rfl, e⟩
   ·rw [if_neg e]
    rcases W6 l (s + 1) p with ⟨h1, h2⟩ | ⟨i, q, h1, h2, h3⟩
    ·grind
    ·exact .inr ⟨i + 1, q, by omega, by grind, h3⟩
theorem vP (l : List Lk) (p : PlL) : (Yw l p = 0 ∧ ∀ q ∈ l, q.pl ≠ p) ∨ ∃ (i : Nat) (q : Lk), Yw l p = ((i + 1 : Nat) : Int) ∧ l[i]? = some q ∧ q.pl = p := by
 grind [W6]
theorem W7 : ∀ (l : List Lk) (s : Nat) (x : Lk) (p : PlL), (∀ q ∈ l, q.pl ≠ x.pl) → jz (l ++ [x]) s p = if p = x.pl then ((s + l.length + 1 : Nat) : Int) else jz l s p
 | [], s, x, p, _ => by
   rw [List.nil_append, jz, jz]
   by_cases e : x.pl = p
   ·grind
   ·rw [if_neg e, if_neg fun h => e h.symm]; rfl
 | y :: l, s, x, p, h => by
   have ih := W7 l (s + 1) x p fun q hq => h q (List.mem_cons_of_mem _ hq)
   grind [jz]
theorem JdQ {l : List Lk} {x : Lk} (h : ∀ q ∈ l, q.pl ≠ x.pl) (p : PlL) : Yw (l ++ [x]) p = if p = x.pl then ((l.length + 1 : Nat) : Int) else Yw l p := by
 grind [W7]
theorem DX : ∀ (l : List Lk) (i s : Nat) (p : PlL) (q q' : Lk), l[i]? = some q → q'.pl = q.pl → jz (l.set i q') s p = jz l s p
 | [], i, s, p, q, q', h, _ => by grind
 | x :: l, 0, s, p, q, q', h, e => by
   grind [jz]
 | x :: l, i + 1, s, p, q, q', h, e => by
   rw [List.getElem?_cons_succ] at h
   rw [List.set_cons_succ, jz, jz, DX l i (s + 1) p q q' h e]
def ju (held : List Lk) (x : Lk) : Prop := ZY held (Wj held x.block) (decide (Yw held x.pl ≠ 0)) x
def JU (held : List Lk) (x : Lk) : List Lk :=
 if Yw held x.pl = 0 then held ++ [x] else if x.excl = true then match held[(Yw held x.pl - 1).toNat]? with
  | some q => held.set (Yw held x.pl - 1).toNat q.strong
  | none => held
 else held
open Classical in
noncomputable def YT (held gone : List Lk) : List Lk → List Lk × List Lk
 | [] => (held, gone)
 | x :: xs => if ju held x then (held, gone) else YT (JU held x) (gone ++ [x]) xs
theorem vN {held gone xs : List Lk} {x : Lk} (h : ju held x) : YT held gone (x :: xs) = (held, gone) := by grind [YT]
theorem Kv {held gone xs : List Lk} {x : Lk} (h : ¬ ju held x) : YT held gone (x :: xs) = YT (JU held x) (gone ++ [x]) xs := by grind [YT]
noncomputable def Vk (h0 w0 : List Lk) : Nat → List Lk × List Lk
 | 0 => (h0, [])
 | k + 1 => YT (Vk h0 w0 k).1 (Vk h0 w0 k).2 (w0.filter fun q => q.block == (k : Int))
def Wc (w0 gone : List Lk) : List Lk := w0.filter fun y => decide (y.pl ∉ gone.map Lk.pl)
/-! the law -/
structure RelI (NP : Nm → Prop) (h wt : List Lk) : Prop where
 ok : OkM h wt
 young : YoungM h wt
 nh : ∀ q ∈ h, NP q.name
 nw : ∀ q ∈ wt, NP q.name
def Je1 (h wt : List Lk) (n : Nm) (h' wt' : List Lk) : Prop :=
 h' = (Vk (h.filter fun q => !q.name.eqb n) (wt.filter fun q => !q.name.eqb n) 32).1 ∧ wt' = Wc (wt.filter fun q => !q.name.eqb n) (Vk (h.filter fun q => !q.name.eqb n) (wt.filter fun q => !q.name.eqb n) 32).2
end
section
variable {l : List Lk} {R : List RIr} {x : Lk} {ml : Mes PlL}
def RIx (R : List RIr) (l : List Lk) : Prop := R.length = 32 ∧ ∀ (k : Nat) (r : RIr), R[k]? = some r → r.zs = Wj l (k : Int)
theorem RIx.get (h : RIx R l) {k : Nat} (hk : k < 32) : ∃ r, R[k]? = some r ∧ r.zs = Wj l (k : Int) := by
 have := List.getElem?_eq_getElem (show k < R.length by rw [h.1]; exact hk)
 exact ⟨_, this, h.2 _ _ this⟩
theorem RIx.put {kb : Nat} {r r' : RIr} (h : RIx R l) (hb : x.block = (kb : Int)) (hr : R[kb]? = some r) (hz : r'.zs = r.zs ++ [(l.length : Int)]) : RIx (R.set kb r') (l ++ [x]) := by
 refine ⟨by rw [List.length_set]; exact h.1, fun k q hq => ?_⟩
 have hlt := (List.getElem?_eq_some_iff.1 hr).1
 rw [Jeg]
 by_cases e : kb = k
 ·subst e
  rw [List.getElem?_set_self hlt] at hq
  obtain rfl := Option.some.inj hq
  rw [if_pos hb, hz, h.2 _ _ hr]
 ·rw [List.getElem?_set_ne e] at hq
  rw [if_neg o_, List.append_nil]
  exact h.2 _ _ hq
theorem RIx.strong {i : Nat} {q : Lk} (h : RIx R l) (hq : l[i]? = some q) : RIx R (l.set i q.strong) :=
 ⟨h.1, fun k r hr => by rw [h.2 k r hr]; exact (Eh l i 0 k q q.strong hq rfl).symm⟩
def PI (ml : Mes PlL) (l : List Lk) : Prop := ∀ p, (VJ ml p).getD (.int .i64 0) = .int .i64 (Yw l p)
theorem PI.put {c : Nat} {z : Int} (h : PI ml l) (hx : ∀ q ∈ l, q.pl ≠ x.pl) (hz : z = (l.length : Int) + 1) : PI (Yg encP ml c x.pl (.int .i64 z)).1 (l ++ [x]) := by
 intro p
 rw [zK, JdQ hx]
 split
 ·grind
 ·exact h p
theorem PI.strong {i : Nat} {q : Lk} (h : PI ml l) (hq : l[i]? = some q) : PI ml (l.set i q.strong) := fun p => by
 rw [h p]; congr 1; exact (DX l i 0 p q q.strong hq rfl).symm
def GI (ml : Mes PlL) (gone : List Lk) : Prop := ∀ p, (VJ ml p).getD (.int .i8 0) = .int .i8 (if p ∈ gone.map Lk.pl then 1 else 0)
theorem GI.put {c : Nat} (h : GI ml l) : GI (Yg encP ml c x.pl (.int .i8 1)).1 (l ++ [x]) := by
 intro p
 rw [zK]
 by_cases e : p = x.pl
 ·grind
 ·rw [if_neg e, h p]
  grind
set_option maxRecDepth 20000 in
theorem vi (w : World) : (zeroValue 3).run Tryz.prog w = .ok (.int .i64 0) w := by
 simp_all
theorem Jfv (h0 w0 : List Lk) : ∀ (k : Nat), (Vk h0 w0 k).1.length ≤ h0.length + k * w0.length ∧ (Vk h0 w0 k).2.length ≤ k * w0.length := by
 have hrow : ∀ (row held gone : List Lk), (YT held gone row).1.length ≤ held.length + row.length ∧ (YT held gone row).2.length ≤ gone.length + row.length := by
  intro row
  induction row with
  | nil => grind [YT]
  | cons x xs ih =>
    intro held gone
    by_cases hB : ju held x
    ·grind [vN]
    ·rw [Kv hB]
     have h1 := ih (JU held x) (gone ++ [x])
     have h2 : (JU held x).length ≤ held.length + 1 := by
      unfold JU
      split
      ·simp
      ·split
       ·split
        ·simp_all
        ·omega
       ·omega
     grind
 intro k
 induction k with
 | zero => simp [Vk]
 | succ k ih =>
   grind [Vk]
def Jkl (h wt : List Lk) (n : Nm) (w : World) (e : Ending) (w' : World) : Prop :=
 ∃ er v oa ol oc h' wt', e = .returned (.tuple #[v, .slice oa ol oc, .int .i64 er]) ∧ JcE h' wt' w w' v ∧ ((er = 0 ∧ OkT h wt ∧ Je1 h wt n h' wt') ∨ (er = 2 ∧ ¬ OkT h wt))
noncomputable def Vq (h wt : List Lk) (n : Nm) : List Lk := (Vk (h.filter fun q => !q.name.eqb n) (wt.filter fun q => !q.name.eqb n) 32).2
def EN (h wt : List Lk) (n : Nm) (w : World) (e : Ending) (w' : World) : Prop :=
 (∃ va1 va4 oa vc1 vc4 oc lo1 hi1 lo4 hi4 lo3 hi3 h' wt', e = .returned (.tuple #[zh va1 va4 h'.length vc1 wt'.length vc4, .slice oa (Vq h wt n).length oc, .int .i64 0]) ∧
   Mem w w' [Jd lo1 hi1 110 5 (.slice va1 h'.length vc1) h'.length (Jg h'), Jd lo4 hi4 110 5 (.slice va4 wt'.length vc4) wt'.length (Jg wt'), Jd lo3 hi3 110 5 (.slice oa (Vq h wt n).length oc) (Vq h wt n).length (Jg (Vq h wt n))] ∧ OkT h wt ∧ Je1 h wt n h' wt') ∨
 ((∃ v oa ol oc, e = .returned (.tuple #[v, .slice oa ol oc, .int .i64 2]) ∧ JcE [] [] w w' v) ∧ ¬ OkT h wt)
set_option maxHeartbeats 8000000 in
theorem GV (ha wa : Option Addr) (hc wc : Nat) (h wt : List Lk) (n : Nm) (w : World) (hv : LsL 0 w.heap.size w (.slice ha h.length hc) h) (hu : LsL 0 w.heap.size w (.slice wa wt.length wc) wt) (hl : h.length ≤ 1000) (hl2 : wt.length ≤ 1000) :
 CT 223 #[zh ha wa h.length hc wt.length wc, .agg n.cells] w (EN h wt n w) := by
 have M := Mem.start w
 refine qI Tryz.func223 132 ?_; intro a S
 refine nxD (qW_ S M ?_); intro a w1 bT S M hB
 refine qW_ S M ?_; intro a w2 bN S M hB
 refine qN S M Zz ?_; intro a w3 bR S M hB
 refine gp [[0,1,1],[5],[902,2,2]] ?_; intro a S
 refine qD S rfl (Kk ha wa hc wc h wt _ (M.argW hv) (M.argW hu)) ?_
 rintro _ w4 ⟨er, rfl, hK, her⟩; replace M := M.grow hK
 refine gq [[0,1],[2],[940,21]] ?_ ?_
 ·intro a h21 S
  refine cT S (nxD (qB_ VD Kf S ?_)); intro a S
  refine go [[900,0],[0,1,1],[4]] ?_; intro a w5 S M
  refine JY S rfl (rA_ 2 0 M) rT_ rT_ ?_
  replace M := (M.rowNil 110 5).rowNil 110 5
  replace M := ((M.drp 2).drp 2).drp 2
  exact .inr ⟨⟨_, none, 0, 0, rfl, ⟨none, none, 0, 0, _, _, _, _, rfl, M⟩⟩, fun h' => by grind⟩
 intro a h21 S
 refine gp [[4]] ?_; intro a S
 have her0 : er = 0 := by omega
 have hok := her.1 her0
 obtain ⟨h0, hh0⟩ : ∃ h0, h0 = h.filter fun q => !q.name.eqb n := ⟨_, rfl⟩
 obtain ⟨w0, hw0⟩ : ∃ w0, w0 = wt.filter fun q => !q.name.eqb n := ⟨_, rfl⟩
 have hs1 : h0.Sublist h := by grind [List.filter_sublist]
 have hs2 : w0.Sublist wt := by grind [List.filter_sublist]
 have hl3 : h0.length ≤ 1000 := Nat.le_trans hs1.length_le hl
 have hl4 : w0.length ≤ 1000 := Nat.le_trans hs2.length_le hl2
 have hmay : ∀ q ∈ h0, q.may = true := fun q hq => hok.may q (hs1.subset hq)
 have hnd : (h0.map Lk.pl).Nodup := hok.nodup.sublist (hs1.map _)
 refine wp_region_lit (qY S (Jx (fs := []) (cs := [.tmp 3]) S rfl rfl) ?_); intro a S
 refine qG [1] S ?_; intro a S
 refine nxC (YI (fun a w' => ∃ (bU : Nat) (va1 va2 : Option Addr) (vc1 vc2 lo1 hi1 lo2 hi2 : Nat), Jk 132 a [(4, p_ bR), (8, p_ bU)] ∧ Mem w w' [.blk bU #[.slice va1 h0.length vc1, .slice va2 w0.length vc2] 30, Jd lo2 hi2 110 5 (.slice va2 w0.length vc2) w0.length (Jg w0), Jd lo1 hi1 110 5 (.slice va1 h0.length vc1) h0.length (Jg h0), .blk bR Zz 30]) ?_ ?_)
 ·skip
  refine go [[910,10],[911,0,1,3,1],[911,4,2,3,1]] ?_; intro a w6 S M
  refine j3 3 9 rfl rfl k_ ?_ ?_
  ·skip
   refine qD S rfl (ZR (fi := []) (ca := [p_ bN]) (Ji Tryz.func287 d_ rfl) ha hc h (fun q => !q.name.eqb n) _ (M.argW hv) o_ (fun y _ w' hb => yF y n bN w' ((hb.block bN (M.blk 1 rfl).lt).trans (M.blk 1 rfl)))) ?_
   rintro _ w7 ⟨va1, vc1, lo1, hi1, rfl, M1⟩; refine rv_ ?_; intro a S
   rw [← hh0] at S M1
   have hK := M1.below
   replace M := M.join M1; clear M1
   replace M := M.c_
   refine kH_ hK ?_
   refine j3 7 9 rfl rfl k_ ?_ ?_
   ·skip
    refine qD S rfl (ZR (fi := []) (ca := [p_ bN]) (Ji Tryz.func287 d_ rfl) wa wc wt (fun q => !q.name.eqb n) _ (M.argW hu) o_ (fun y _ w' hb => yF y n bN w' ((hb.block bN (M.blk 2 rfl).lt).trans (M.blk 2 rfl)))) ?_
    rintro _ w8 ⟨va2, vc2, lo2, hi2, rfl, M1⟩; refine rv_ ?_; intro a S
    rw [← hw0] at S M1
    have hK := M1.below
    replace M := M.join M1; clear M1
    replace M := M.c_
    refine kH_ hK ?_
    refine Jj 8 S rfl (fun w => JW (ps := [(0, .tmp 27), (1, .tmp 31)]) (pl := VD) (z := Kf) (cs := [_, _]) S k_ rfl (rfl)) ?_; intro a S
    refine k1_ 9 ?_
    refine qN S M Zz ?_; intro a w9 bU S M hB
    refine kH_ hB ?_
    refine go [[914,10,0],[2]] ?_; intro a w10 S M
    replace M := (M.drp 5).drp 4
    replace M := M.od [3, 3, 3, 3]
    exact ⟨bU, va1, va2, vc1, vc2, lo1, hi1, lo2, hi2, S.sub _ rfl, M⟩
   ·skip
    refine qN S M Zz ?_; intro a w11 bU S M hB
    refine kH_ hB ?_
    refine k1_ 7 ?_
    refine qD S rfl (ZR (fi := []) (ca := [p_ bN]) (Ji Tryz.func287 d_ rfl) wa wc wt (fun q => !q.name.eqb n) _ (M.argW hu) o_ (fun y _ w' hb => yF y n bN w' ((hb.block bN (M.blk 3 rfl).lt).trans (M.blk 3 rfl)))) ?_
    rintro _ w12 ⟨va2, vc2, lo2, hi2, rfl, M1⟩; refine rv_ ?_; intro a S
    rw [← hw0] at S M1
    have hK := M1.below
    replace M := M.join M1; clear M1
    replace M := M.c_
    refine kH_ hK ?_
    refine Jj 8 S rfl (fun w => JW (ps := [(0, .tmp 27), (1, .tmp 31)]) (pl := VD) (z := Kf) (cs := [_, _]) S k_ rfl (rfl)) ?_
    refine go [[914,10,1],[2]] ?_; intro a w13 S M
    replace M := (M.drp 5).drp 4
    replace M := M.od [3, 3, 2, 3]
    exact ⟨bU, va1, va2, vc1, vc2, lo1, hi1, lo2, hi2, S.sub _ rfl, M⟩
  ·skip
   refine qN S M Zz ?_; intro a w14 bU S M hB
   refine kH_ hB ?_
   refine k1_ 3 ?_
   refine qD S rfl (ZR (fi := []) (ca := [p_ bN]) (Ji Tryz.func287 d_ rfl) ha hc h (fun q => !q.name.eqb n) _ (M.argW hv) o_ (fun y _ w' hb => yF y n bN w' ((hb.block bN (M.blk 2 rfl).lt).trans (M.blk 2 rfl)))) ?_
   rintro _ w15 ⟨va1, vc1, lo1, hi1, rfl, M1⟩; refine rv_ ?_; intro a S
   rw [← hh0] at S M1
   have hK := M1.below
   replace M := M.join M1; clear M1
   replace M := M.c_
   refine kH_ hK ?_
   refine k1_ 7 ?_
   refine qD S rfl (ZR (fi := []) (ca := [p_ bN]) (Ji Tryz.func287 d_ rfl) wa wc wt (fun q => !q.name.eqb n) _ (M.argW hu) o_ (fun y _ w' hb => yF y n bN w' ((hb.block bN (M.blk 3 rfl).lt).trans (M.blk 3 rfl)))) ?_
   rintro _ w16 ⟨va2, vc2, lo2, hi2, rfl, M1⟩; refine rv_ ?_; intro a S
   rw [← hw0] at S M1
   have hK := M1.below
   replace M := M.join M1; clear M1
   replace M := M.c_
   refine kH_ hK ?_
   refine Jj 8 S rfl (fun w => JW (ps := [(0, .tmp 27), (1, .tmp 31)]) (pl := VD) (z := Kf) (cs := [_, _]) S k_ rfl (rfl)) ?_
   refine go [[914,10,2],[2]] ?_; intro a w17 S M
   replace M := (M.drp 5).drp 4
   replace M := M.od [3, 2, 2, 3]
   exact ⟨bU, va1, va2, vc1, vc2, lo1, hi1, lo2, hi2, S.sub _ rfl, M⟩
 intro a wc
 rintro ⟨bU, va1, va2, vc1, vc2, lo1, hi1, lo2, hi2, S, M⟩
 refine nxD (Zh (κ := PlL) S M rfl rfl ?_); intro a w18 bX S M hB
 refine qG [1] S ?_; intro a S
 refine nxA (qN S M #[.slice none 0 0, .slice none 0 0, .slice none 0 0, .slice none 0 0, .slice none 0 0, .slice none 0 0, .slice none 0 0, .slice none 0 0, .slice none 0 0, .slice none 0 0, .slice none 0 0, .slice none 0 0, .slice none 0 0, .slice none 0 0, .slice none 0 0, .slice none 0 0, .slice none 0 0, .slice none 0 0, .slice none 0 0, .slice none 0 0, .slice none 0 0, .slice none 0 0, .slice none 0 0, .slice none 0 0, .slice none 0 0, .slice none 0 0, .slice none 0 0, .slice none 0 0, .slice none 0 0, .slice none 0 0, .slice none 0 0, .slice none 0 0] ?_); intro a w19 bHB S M hB
 refine gp [[5,1,3],[903,110],[0,1],[3]] ?_; intro a S
 refine Jc (fun m a w' => ∃ (i : Nat) (Q : List RIr) (ml : Mes PlL) (c : Nat), i ≤ h0.length ∧ m = h0.length - i ∧ Good encP ml c ∧ PI ml (h0.take i) ∧ RIx Q (h0.take i) ∧ Jk 132 a [(4, p_ bR), (8, p_ bU), (9, .map (some bX)), (10, p_ bHB), (35, .slice va1 h0.length vc1), (36, .int .i64 (h0.length : Int)), (37, .int .i64 (i : Int))] ∧ Mem w w' (.blk bHB (vE Q).toArray 377 :: J0 bX ml c :: .blk bU #[.slice va1 h0.length vc1, .slice va2 w0.length vc2] 30 :: Jd lo2 hi2 110 5 (.slice va2 w0.length vc2) w0.length (Jg w0) :: Jd lo1 hi1 110 5 (.slice va1 h0.length vc1) h0.length (Jg h0) :: .blk bR Zz 30 :: V2 Q)) (h0.length) ?_ ?_
 ·skip
  replace M := M.rowsNil 32
  replace M := M.c_
  refine ⟨0, List.replicate 32 ⟨(w19).heap.size, (w19).heap.size, none, 0, []⟩, [], 0, Nat.zero_le _, rfl, ZS 0, fun p => rfl, ⟨List.length_replicate, fun k r hr => ?_⟩, S.sub _ rfl, M⟩
  obtain ⟨h9, e⟩ := List.getElem?_eq_some_iff.1 hr
  rw [List.getElem_replicate] at e
  rw [← e]; rfl
 intro m a wl
 rintro ⟨i, Q, ml, c, hi', rfl, hG, hPI, hRI, S, M⟩
 refine gq [[2,1],[3],[940,38]] ?_ ?_
 ·intro a h38 S
  refine gp [[6]] ?_; intro a S
  obtain ⟨x, hx⟩ : ∃ x, h0[i]? = some x := ⟨_, List.getElem?_eq_getElem o_⟩
  have hxm := List.mem_of_getElem? hx
  have htk : h0.take (i + 1) = h0.take i ++ [x] := by rw [List.take_add_one, hx]; rfl
  have htl : (h0.take i).length = i := by rw [List.length_take]; omega
  obtain ⟨kb, hkb, hk32⟩ := Xc (hmay x hxm)
  obtain ⟨r, hr, hrz⟩ := hRI.get hk32
  have hrl : r.zs.length ≤ 1000000 := by
   rw [hrz, Qi]
   have := List.length_filter_le (fun q : Lk => q.block == (kb : Int)) (h0.take i)
   omega
  refine gp [[1,1],[905,110,5,4]] ?_; intro a S
  refine qY S (Ja S k_ rfl rfl ((M.readAll 4 rfl m_).at_.row (i := i) (J6 hx) rfl)) ?_; intro a S
  refine qN S M yg ?_; intro a w20 bL S M hB
  refine go [[0,1],[900,0],[4,1],[902,0,5]] ?_; intro a w21 S M
  refine qK S rfl (YP x _) M ?_; intro a w22 S hK M
  refine gp [[0,1],[901]] ?_; intro a S
  refine VU (pos := 2) S M (zr) (hG) Tryz.underlying376 rfl rfl rfl rfl rfl ?_; intro w23 M
  replace M := M.s_
  refine nxC (Yo (C := fun W => Blk W bL x.cellsL.toArray 110) [8, 10] #[false, false, false, false, false, false, false, false, false, false, false] rfl M k_ ?_); intro w24 M; have hC := M.blk 0 rfl
  refine kcF 0 3 S hC ?_; intro a S
  refine JT 1 S rfl hC (fun w hC => Jf S k_ rfl (show _ = some (Value.int .i64 x.block) from hC.cells 3)) ?_; intro a S
  refine kcF 2 3 S hC ?_; intro a S
  refine JT 3 S rfl hC (fun w hC => Jf S k_ rfl (show _ = some (Value.int .i64 x.block) from hC.cells 3)) ?_; intro a S
  rw [hkb] at S
  refine JT 4 S rfl hC (fun w _ => VM (m := 32) (sz := 1) S k_ rfl rfl o_) ?_; intro a S
  replace S := S.n_
  refine Yf 5 S rfl hC (fun w hW => have M := M.grow hW; Jf S k_ rfl (M.cell 1 rfl (GU hr))) ?_; intro a S
  refine kcP 6 S hC ?_; intro a S
  refine VV 7 rfl k_ ?_
  refine JG (ps := [(0, .tmp 53)]) (e := 3) (sz := 1) (zl := [.int .i64 0]) (cs := [_]) S M rfl rfl k_ rfl (rfl) ?_; intro a w25 bZ S M hB
  replace hC := M.blk 1 rfl
  refine nxC ⟨fun _ => hB, hC, ?_⟩
  refine VV 8 rfl k_ ?_
  refine QM (A := [_, _, _, _, _, _, _, _]) (k := kb) (z := (i : Int)) S M hr hrl rfl rfl k_ rfl rfl (M.sliceAt 0 rfl (M.cellsAt (k := 1) 0 rfl rfl) rfl (Nat.le_refl _) m_) ?_
  intro a wA r' hr' S M
  replace M := M.c_
  have hB := trivial
  replace hC := M.blk 1 rfl
  refine nxC ⟨fun h => absurd h d_, hC, ?_⟩
  refine JT 9 S rfl hC (fun w _ => VM (m := 32) (sz := 1) S k_ rfl rfl o_) ?_; intro a S
  replace S := S.n_
  refine VV 10 rfl k_ ?_
  refine Ju (sz := 1) (us := [_]) S M 2 rfl k_ rfl rfl rfl rfl rfl rfl (by rw [WV, hRI.1]; show _ + 1 ≤ 32; omega) ?_; intro w26 M
  replace M := M.s_
  replace hC := M.blk 1 rfl
  refine nxC ⟨fun h => absurd h d_, hC, ?_⟩
  refine vS k_ ?_
  replace S := S.keep [4, 8, 9, 10, 35, 36, 37, 38, 12, 11]
  refine gp [[3],[901],[0,1],[2]] ?_; intro a S
  replace M := (M.drp 0).drp 0
  rw [WU (by rw [hRI.1]; exact hk32)] at M
  refine ⟨h0.length - (i + 1), by omega, i + 1, Q.set kb r', _, _, by omega, rfl, hG.put _ _, ?_, ?_, S.sub _ rfl, M⟩
  ·rw [htk]
   refine hPI.put (fun q hq e => ?_) (by rw [htl])
   obtain ⟨j, hj⟩ := List.getElem?_of_mem hq
   have hj1 : j < i := by have := (List.getElem?_eq_some_iff.1 hj).1; omega
   rw [List.getElem?_take_of_lt hj1] at hj
   have := JgO hnd hj hx e
   omega
  ·rw [htk]
   exact hRI.put hkb hr (by rw [hr', htl])
 intro a h38 S
 refine gp [[7]] ?_; intro a S
 obtain rfl : i = h0.length := by omega
 rw [List.take_length] at hPI hRI
 refine gp [[1,1],[4]] ?_; intro a S
 refine Zh (κ := PlL) S M rfl rfl ?_; intro a w27 bG S M hB
 refine qN S M #[.map none] ?_; intro a w28 bGB S M hB
 refine go [[900,0],[5,1],[3]] ?_; intro a w29 S M
 refine Jc (fun m a w' => ∃ (k : Nat) (held gone : List Lk) (Q : List RIr) (ml mg : Mes PlL) (c cg : Nat) (oa va1 : Option Addr) (oc vc1 lo1 hi1 lo3 hi3 : Nat), k ≤ 32 ∧ m = 32 - k ∧ Vk h0 w0 k = (held, gone) ∧ Good encP ml c ∧ PI ml held ∧ RIx Q held ∧ Good encP mg cg ∧ GI mg gone ∧ Jk 132 a [(4, p_ bR), (8, p_ bU), (9, .map (some bX)), (10, p_ bHB), (13, .slice oa gone.length oc), (14, p_ bGB), (59, .int .i64 (k : Int))] ∧ Mem w w' (Jd lo3 hi3 110 5 (.slice oa gone.length oc) gone.length (Jg gone) :: .blk bGB #[.map (some bG)] 212 :: J0 bG mg cg :: .blk bHB (vE Q).toArray 377 :: J0 bX ml c :: .blk bU #[.slice va1 held.length vc1, .slice va2 w0.length vc2] 30 :: Jd lo2 hi2 110 5 (.slice va2 w0.length vc2) w0.length (Jg w0) :: Jd lo1 hi1 110 5 (.slice va1 held.length vc1) held.length (Jg held) :: .blk bR Zz 30 :: V2 Q)) (32) ?_ ?_
 ·skip
  replace M := M.rowNil 110 5
  exact ⟨0, h0, [], Q, ml, [], c, 0, none, va1, 0, vc1, _, _, _, _, by omega, rfl, rfl, hG, hPI, hRI, ZS 0, fun p => rfl, S.sub _ rfl, M⟩
 intro m a wl
 rintro ⟨k, held, gone, Q, ml, mg, c, cg, oa, va1, oc, vc1, lo1, hi1, lo3, hi3, hk, rfl, hrel, hG, hPI, hRI, hGG, hGI, S, M⟩
 refine gp [[2,1],[3]] ?_; intro a S
 refine qf 60 S ?_ ?_
 ·intro h60 S
  refine gp [[8,2,6]] ?_; intro a S
  refine qY S (Jx (fs := []) (cs := [.tmp 14]) S rfl rfl) ?_; intro a S
  refine U8 (xs := [.tmp 126, .tmp 127]) S (Ji Tryz.func288 d_ rfl) rfl rfl rfl (ZR (fi := []) (ca := [p_ bGB]) (Ji Tryz.func291 d_ rfl) va2 vc2 w0 (fun y => decide (y.pl ∉ gone.map Lk.pl)) _ (M.readAll 6 rfl m_) o_ (fun y _ w' hb => by
have h8 := Jfw y bGB bG cg mg _ w' ((hb.block bGB (M.blk 1 rfl).lt).trans (M.blk 1 rfl)) ((hb.block bG (Array.getElem?_eq_some_iff.1 (M.mapAt (pos := 2) rfl)).1).trans (M.mapAt (pos := 2) rfl)) hGG (hGI y.pl)
refine h8.mono fun e w'' h9 => ⟨h9.1.trans ?_, h9.2⟩
by_cases h7 : y.pl ∈ gone.map Lk.pl
·rw [if_pos h7, decide_eq_false (fun h6 => h6 h7)]; rfl
·rw [if_neg h7, decide_eq_true h7]; rfl)) ?_
  rintro _ w52 ⟨va4, vc4, lo4, hi4, rfl, M1⟩; refine rv_ ?_; intro a S
  replace M := M.join M1; clear M1
  replace M := M.c_
  refine go [[0,2],[900,6],[4],[902,6,2],[0,1],[900,9],[0,1,1],[3]] ?_; intro a w54 S M
  refine JY S rfl (rA_ 2 9 M) rT_ rT_ ?_
  obtain rfl : k = 32 := by omega
  replace M := M.od [1, 1, 8]
  have M2 := M.sub (H' := [_, _, _]) (.cons_cons _ (.cons_cons _ (.cons_cons _ (List.nil_sublist _))))
  have e9 : Vq h wt n = gone := by unfold Vq; rw [← hh0, ← hw0, hrel]
  unfold EN
  rw [e9]
  exact .inl ⟨va1, va4, oa, vc1, vc4, oc, _, _, _, _, _, _, held, Wc w0 gone, rfl, M2, hok, by rw [← hh0, ← hw0, hrel], by rw [← hh0, ← hw0, hrel]⟩
 intro h60 S
 refine gp [[6]] ?_; intro a S
 have hk32 : k < 32 := by omega
 have hlen := Jfv h0 w0 k
 have hkw : k * w0.length ≤ 32 * 1000 := Nat.mul_le_mul o_ hl4
 rw [hrel] at hlen
 simp only at hlen
 obtain ⟨row, hrow⟩ : ∃ row, row = w0.filter fun q => q.block == (k : Int) := ⟨_, rfl⟩
 have hrl : row.length ≤ 1000 := by rw [hrow]; exact Nat.le_trans (List.length_filter_le _ _) hl4
 have hrb : ∀ x ∈ row, x.block = (k : Int) := fun x hx => by rw [hrow] at hx; simpa using (List.mem_filter.1 hx).2
 refine gp [[1,1]] ?_; intro a S
 refine qN S M #[.int .i64 0] ?_; intro a w30 bB S M hB
 refine go [[900,0],[4,2,7]] ?_; intro a w31 S M
 refine qY S (Jx (fs := []) (cs := [.tmp 15]) S rfl rfl) ?_; intro a S
 refine qD S rfl (ZR (fi := []) (ca := [p_ bB]) (Ji Tryz.func289 d_ rfl) va2 vc2 w0 (fun q => q.block == (k : Int)) _ (M.readAll 7 rfl m_) o_ (fun y _ w' hb => Jfx y (k : Int) bB w' ((hb.block bB (M.blk 0 rfl).lt).trans (M.blk 0 rfl)))) ?_
 rintro _ w32 ⟨va3, vc3, lo4, hi4, rfl, M1⟩; refine rv_ ?_; intro a S
 rw [← hrow] at S M1
 replace M := M.join M1; clear M1
 replace M := M.c_
 refine gp [[903,110],[0,1],[3]] ?_; intro a S
 refine Jc (fun m a w' => ∃ (j : Nat) (held gone : List Lk) (Q : List RIr) (ml mg : Mes PlL) (c cg : Nat) (oa va1 : Option Addr) (oc vc1 lo1 hi1 lo3 hi3 : Nat), j ≤ row.length ∧ m = row.length - j ∧ YT held gone (row.drop j) = Vk h0 w0 (k + 1) ∧ held.length ≤ 33000 + j ∧ gone.length ≤ 32000 + j ∧ Good encP ml c ∧ PI ml held ∧ RIx Q held ∧ Good encP mg cg ∧ GI mg gone ∧ Jk 132 a [(4, p_ bR), (8, p_ bU), (9, .map (some bX)), (10, p_ bHB), (13, .slice oa gone.length oc), (14, p_ bGB), (15, p_ bB), (59, .int .i64 (k : Int)), (65, .slice va3 row.length vc3), (66, .int .i64 (row.length : Int)), (67, .int .i64 (j : Int))] ∧ Mem w w' (Jd lo4 hi4 110 5 (.slice va3 row.length vc3) row.length (Jg row) :: .blk bB #[.int .i64 (k : Int)] 3 :: Jd lo3 hi3 110 5 (.slice oa gone.length oc) gone.length (Jg gone) :: .blk bGB #[.map (some bG)] 212 :: J0 bG mg cg :: .blk bHB (vE Q).toArray 377 :: J0 bX ml c :: .blk bU #[.slice va1 held.length vc1, .slice va2 w0.length vc2] 30 :: Jd lo2 hi2 110 5 (.slice va2 w0.length vc2) w0.length (Jg w0) :: Jd lo1 hi1 110 5 (.slice va1 held.length vc1) held.length (Jg held) :: .blk bR Zz 30 :: V2 Q)) (row.length) ?_ ?_
 ·skip
  exact ⟨0, held, gone, Q, ml, mg, c, cg, oa, va1, oc, vc1, _, _, _, _, Nat.zero_le _, rfl, by rw [List.drop_zero, Vk, hrel, hrow], by omega, by omega, hG, hPI, hRI, hGG, hGI, S.sub _ rfl, M⟩
 intro m a wl
 clear hG hPI hRI hGG hGI hlen
 rintro ⟨j, held, gone, Q, ml, mg, c, cg, oa, va1, oc, vc1, lo1, hi1, lo3, hi3, hj, rfl, hgo, hhl, hgl, hG, hPI, hRI, hGG, hGI, S, M⟩
 refine gq [[2,1],[3],[943,68]] ?_ ?_
 ·intro a h68 S
  refine gp [[8],[901],[0,1],[2]] ?_; intro a S
  have hfin : Vk h0 w0 (k + 1) = (held, gone) := by
   first
    | (have hB : ju held x := by
        have e : (Yw held x.pl != 0) = decide (Yw held x.pl ≠ 0) := by rw [Bool.eq_iff_iff]; simp
        have := hbb.1 h83
        unfold ju
        rw [hxb, ← hrz, ← e]; exact this
       rw [hdr, vN hB] at hgo
       exact hgo.symm)
    | (obtain rfl : j = row.length := by omega
       rw [List.drop_length, YT] at hgo
       exact hgo.symm)
  first
   | exact ⟨32 - (k + 1), by omega, k + 1, held, gone, Q, _, _, _, _, oa, va1, oc, vc1, _, _, _, _, by omega, rfl, hfin, hG, hPI, hRI, hGG, hGI, S.sub _ rfl, (M.drop 0).drop 0⟩
   | exact ⟨32 - (k + 1), by omega, k + 1, held, gone, Q, _, _, _, _, oa, va1, oc, vc1, _, _, _, _, by omega, rfl, hfin, hG, hPI, hRI, hGG, hGI, S.sub _ rfl, ((M.drop 0).drop 0).drop 0⟩
 intro a h68 S
 refine gp [[6]] ?_; intro a S
 obtain ⟨x, hx⟩ : ∃ x, row[j]? = some x := ⟨_, List.getElem?_eq_getElem o_⟩
 have hxb := hrb x (List.mem_of_getElem? hx)
 have hdr : row.drop j = x :: row.drop (j + 1) := by
  obtain ⟨h9, e9⟩ := List.getElem?_eq_some_iff.1 hx
  rw [List.drop_eq_getElem_cons h9, e9]
 obtain ⟨r, hr, hrz⟩ := hRI.get hk32
 have hrl2 : r.zs.length ≤ 1000000 := by
  rw [hrz, Qi]
  have := List.length_filter_le (fun q : Lk => q.block == (k : Int)) held
  omega
 refine gp [[1],[905,110,5,0]] ?_; intro a S
 refine qY S (Ja S k_ rfl rfl ((M.readAll 0 rfl m_).at_.row (i := j) (J6 hx) rfl)) ?_; intro a S
 refine qN S M yg ?_; intro a w33 bL S M hB
 refine go [[900,0],[4,1],[902,0,5]] ?_; intro a w34 S M
 refine qK S rfl (YP x _) M ?_; intro a w35 S hK M
 refine qY S (V9 (pos := 7) S M (zr) (hG) Tryz.underlying376 (vi) rfl rfl rfl) ?_; intro a S
 simp only [Bool.false_eq_true, if_false, hPI x.pl] at S
 refine qY S (JP S rfl) ?_
 refine go [[4],[910],[911,0,1,9,3]] ?_; intro a w36 S M
 refine Jj 3 S rfl (fun w => VM (m := 32) (sz := 1) S k_ rfl rfl f_) ?_; intro a S
 replace S := S.n_
 refine kR 4 S rfl M (fun w M => Jf S k_ rfl (M.cell 6 rfl (GU hr))) ?_
 refine gp [[911,5,1]] ?_; intro a S
 refine Jj 6 S rfl (fun w => J2 S rfl rfl rfl) ?_; intro a S
 refine kR 7 S rfl M (fun w M => Ja (cs := [_, _, _, _, _]) S k_ rfl rfl (M.cellsAt (k := 5) 0 rfl rfl)) ?_; intro a S
 refine k1_ 8 ?_
 refine qD S rfl (Jay va1 r.a vc1 r.c held r.zs (Yw held x.pl != 0) x _ (M.readAll 10 rfl m_) (Mem.rowsGet (A := [_, _, _, _, _, _, _, _, _, _, _, _]) M hr m_) (fun z hz => by rw [hrz] at hz; obtain ⟨j9, q9, h91, h92, -⟩ := Jeh hz; exact ⟨j9, q9, h91, h92⟩)) ?_
 rintro _ w37 ⟨bb, rfl, hK, hbb⟩; replace M := M.grow hK
 refine gp [[2]] ?_; intro a S
 refine ⟨fun _ => hK, ?_⟩
 refine gp [[2]] ?_; intro a S
 refine Js (t := 83) S rfl ?_ ?_
 ·intro h83 S
  refine gp [[10],[901],[0,1],[2]] ?_; intro a S
  have hfin : Vk h0 w0 (k + 1) = (held, gone) := by
   first
    | (have hB : ju held x := by
        have e : (Yw held x.pl != 0) = decide (Yw held x.pl ≠ 0) := by rw [Bool.eq_iff_iff]; simp
        have := hbb.1 h83
        unfold ju
        rw [hxb, ← hrz, ← e]; exact this
       rw [hdr, vN hB] at hgo
       exact hgo.symm)
    | (obtain rfl : j = row.length := by omega
       rw [List.drop_length, YT] at hgo
       exact hgo.symm)
  first
   | exact ⟨32 - (k + 1), by omega, k + 1, held, gone, Q, _, _, _, _, oa, va1, oc, vc1, _, _, _, _, by omega, rfl, hfin, hG, hPI, hRI, hGG, hGI, S.sub _ rfl, (M.drop 0).drop 0⟩
   | exact ⟨32 - (k + 1), by omega, k + 1, held, gone, Q, _, _, _, _, oa, va1, oc, vc1, _, _, _, _, by omega, rfl, hfin, hG, hPI, hRI, hGG, hGI, S.sub _ rfl, ((M.drop 0).drop 0).drop 0⟩
 intro h83 S
 refine gp [[4]] ?_; intro a S
 have hBk : ¬ ju held x := fun hB => by
  have : ZY held r.zs (Yw held x.pl != 0) x := by
   unfold ju at hB
   rw [hxb, ← hrz] at hB
   have e : (Yw held x.pl != 0) = decide (Yw held x.pl ≠ 0) := by rw [Bool.eq_iff_iff]; simp
   rw [e]; exact hB
  rw [hbb.2 this] at h83; cases h83
 rw [hdr, Kv hBk] at hgo
 refine go [[910,3],[911,0,5]] ?_; intro a w38 S M
 refine kR 1 S rfl M (fun w M => Ja (cs := [_, _, _, _, _]) S k_ rfl rfl (M.cellsAt (k := 5) 0 rfl rfl)) ?_; intro a S
 refine k1_ 2 ?_
 refine qK S rfl (YP x _) M ?_; intro a w39 S hK M
 refine kH_ hK ?_
 refine k1_ 3 ?_
 refine VU (pos := 5) S M (zr) (hGG) Tryz.underlying212 rfl rfl rfl rfl rfl ?_; intro w40 M
 replace M := M.s_
 refine kn_ ?_
 refine gp [[4,1],[902,0,5]] ?_; intro a S
 refine JG (ps := [(0, .tmp 88)]) (e := 110) (sz := 5) (zl := cz9) (cs := [_, _, _, _, _]) S M rfl rfl k_ rfl (rfl) ?_; intro a w41 bZ S M hB
 refine qP_ (e := 110) (sz := 5) (by_ := 40) (zc := cz9) S M 4 rfl rfl rfl (show Rd _ _ _ 5 _ 1 x.cellsL from M.sliceAt 0 rfl (M.cellsAt (k := 5) 0 rfl rfl) rfl (Nat.le_refl _) m_) ?_; intro a w42 vA loA hiA S M
 obtain ⟨aA, cA, rfl, -, -⟩ := (M.readAll 0 rfl m_).form
 replace M := M.drp 1
 refine qY S (JP S rfl) ?_
 refine gq [[4,1,1],[2],[943,92]] ?_ ?_
 ·intro a h92 S
  refine gq [[3,5,2],[2],[943,116]] ?_ ?_
  ·intro a h116 S
   refine gp [[5],[901],[0,1],[2]] ?_; intro a S
   replace M := M.drp 1
   replace M := M.od [10, 10, 10, 10, 10, 10, 10, 10, 8, 10, 10]
   have e1 : (gone ++ [x]).length = gone.length + 1 := by simp
   have e2 : Jg (gone ++ [x]) = Jg gone ++ x.cellsL := by rw [Vn]; simp [Jg]
   first
    | (have hgr : JU held x = held ++ [x] := by unfold JU; rw [if_pos h92]
       have hno : ∀ q ∈ held, q.pl ≠ x.pl := by
        rcases vP held x.pl with ⟨-, h8⟩ | ⟨i8, q8, h8, -⟩
        ·exact h8
        ·omega
       have e3 : (held ++ [x]).length = held.length + 1 := by simp
       have e4 : Jg (held ++ [x]) = Jg held ++ x.cellsL := by rw [Vn]; simp [Jg]
       rw [hgr] at hgo
       exact ⟨row.length - (j + 1), by omega, j + 1, held ++ [x], gone ++ [x], Q.set k r', _, _, _, _, aA, aB, cA, cB, _, _, _, _, by omega, rfl, hgo, by omega, by omega, hG.put _ _, hPI.put hno rfl, hRI.put hxb hr hr', hGG.put _ _, hGI.put, by rw [e1]; exact S.sub _ rfl, by rw [e1, e2, e3, e4]; exact M⟩)
    | (have hgr : JU held x = held.set i9 q9.strong := by
        unfold JU
        rw [if_neg h92, if_pos h116, show (Yw held x.pl - 1).toNat = i9 by omega, hq9]
       have e3 : (held.set i9 q9.strong).length = held.length := List.length_set
       rw [hgr] at hgo
       exact ⟨row.length - (j + 1), by omega, j + 1, held.set i9 q9.strong, gone ++ [x], Q, _, _, _, _, aA, va1, cA, vc1, _, _, _, _, by omega, rfl, hgo, by omega, by omega, hG, hPI.strong hq9, hRI.strong hq9, hGG.put _ _, hGI.put, by rw [e1]; exact S.sub _ rfl, by rw [e1, e2, e3]; exact M⟩)
    | (have hgr : JU held x = held := by unfold JU; rw [if_neg h92, if_neg (by rw [h116]; decide)]
       rw [hgr] at hgo
       exact ⟨row.length - (j + 1), by omega, j + 1, held, gone ++ [x], Q, _, _, _, _, aA, va1, cA, vc1, _, _, _, _, by omega, rfl, hgo, by omega, by omega, hG, hPI, hRI, hGG.put _ _, hGI.put, by rw [e1]; exact S.sub _ rfl, by rw [e1, e2]; exact M⟩)
  intro a h116 S
  refine cT S ?_
  obtain ⟨i9, q9, hpos, hq9, hqp9⟩ : ∃ (i : Nat) (q : Lk), Yw held x.pl = ((i + 1 : Nat) : Int) ∧ held[i]? = some q ∧ q.pl = x.pl := by
   rcases vP held x.pl with ⟨h8, -⟩ | h8
   ·exact absurd h8 h92
   ·exact h8
  have hkl := (List.getElem?_eq_some_iff.1 hq9).1
  rw [hpos] at S
  refine gp [[1,1,9,1],[901]] ?_; intro a S
  rw [show (((i9 + 1 : Nat) : Int) - 1) = (i9 : Int) by omega] at S
  refine gp [[905,110,5,10],[0,5]] ?_; intro a S
  refine Vh (v := .slice va1 held.length vc1) (sz := 5) (m := held.length) (j := i9 * 5 + 4) (us := [.bool true]) S M 10 rfl k_ rfl rfl (by first | rfl | (simp only [Int.toNat_natCast]; omega)) rfl rfl rfl rfl rfl o_ (J3 held) (by rw [J3]; show i9 * 5 + 4 + 1 ≤ _; omega) ?_; intro wz lo9 hi9 M
  replace M := M.e_
  rw [GD hq9] at M
  replace S := S.keep [4, 8, 9, 10, 14, 15, 59, 65, 66, 67, 68, 17, 18, 83, 13, 92, 116]
  refine gp [[4],[901],[0,1],[2]] ?_; intro a S
  replace M := M.drp 2
  replace M := M.od [10, 1, 10, 10, 10, 10, 10, 10, 8, 10, 10]
  have e1 : (gone ++ [x]).length = gone.length + 1 := by simp
  have e2 : Jg (gone ++ [x]) = Jg gone ++ x.cellsL := by rw [Vn]; simp [Jg]
  first
   | (have hgr : JU held x = held ++ [x] := by unfold JU; rw [if_pos h92]
      have hno : ∀ q ∈ held, q.pl ≠ x.pl := by
       rcases vP held x.pl with ⟨-, h8⟩ | ⟨i8, q8, h8, -⟩
       ·exact h8
       ·omega
      have e3 : (held ++ [x]).length = held.length + 1 := by simp
      have e4 : Jg (held ++ [x]) = Jg held ++ x.cellsL := by rw [Vn]; simp [Jg]
      rw [hgr] at hgo
      exact ⟨row.length - (j + 1), by omega, j + 1, held ++ [x], gone ++ [x], Q.set k r', _, _, _, _, aA, aB, cA, cB, _, _, _, _, by omega, rfl, hgo, by omega, by omega, hG.put _ _, hPI.put hno rfl, hRI.put hxb hr hr', hGG.put _ _, hGI.put, by rw [e1]; exact S.sub _ rfl, by rw [e1, e2, e3, e4]; exact M⟩)
   | (have hgr : JU held x = held.set i9 q9.strong := by
       unfold JU
       rw [if_neg h92, if_pos h116, show (Yw held x.pl - 1).toNat = i9 by omega, hq9]
      have e3 : (held.set i9 q9.strong).length = held.length := List.length_set
      rw [hgr] at hgo
      exact ⟨row.length - (j + 1), by omega, j + 1, held.set i9 q9.strong, gone ++ [x], Q, _, _, _, _, aA, va1, cA, vc1, _, _, _, _, by omega, rfl, hgo, by omega, by omega, hG, hPI.strong hq9, hRI.strong hq9, hGG.put _ _, hGI.put, by rw [e1]; exact S.sub _ rfl, by rw [e1, e2, e3]; exact M⟩)
   | (have hgr : JU held x = held := by unfold JU; rw [if_neg h92, if_neg (by rw [h116]; decide)]
      rw [hgr] at hgo
      exact ⟨row.length - (j + 1), by omega, j + 1, held, gone ++ [x], Q, _, _, _, _, aA, va1, cA, vc1, _, _, _, _, by omega, rfl, hgo, by omega, by omega, hG, hPI, hRI, hGG.put _ _, hGI.put, by rw [e1]; exact S.sub _ rfl, by rw [e1, e2]; exact M⟩)
 intro a h92 S
 refine cT S (wp_seq (Yo (C := fun W => Blk W bB #[.int .i64 (k : Int)] 3) [8, 10] #[false, false, false, false, false, false, false, false, false, false, false] rfl M k_ ?_)); intro w43 M; have hC := M.blk 3 rfl
 refine JT 0 S rfl hC (fun w hC => Jf S k_ rfl (show _ = some (Value.int .i64 (k : Int)) from hC.cells 0)) ?_; intro a S
 refine JT 1 S rfl hC (fun w hC => Jf S k_ rfl (show _ = some (Value.int .i64 (k : Int)) from hC.cells 0)) ?_; intro a S
 refine JT 2 S rfl hC (fun w _ => VM (m := 32) (sz := 1) S k_ rfl rfl f_) ?_; intro a S
 replace S := S.n_
 refine Yf 3 S rfl hC (fun w hW => have M := M.grow hW; Jf S k_ rfl (M.cell 6 rfl (GU hr))) ?_; intro a S
 refine kcF 4 0 S hC ?_; intro a S
 refine Yf 5 S rfl hC (fun w hW => have M := M.grow hW; qV S M 8) ?_; intro a S
 refine JT 6 S rfl hC (fun w _ => qH 110 S) ?_; intro a S
 refine VV 7 rfl k_ ?_
 refine JG (ps := [(0, .tmp 99)]) (e := 3) (sz := 1) (zl := [.int .i64 0]) (cs := [_]) S M rfl rfl k_ rfl (rfl) ?_; intro a w44 bZ1 S M hB
 replace hC := M.blk 4 rfl
 refine nxC ⟨fun _ => hB, hC, ?_⟩
 refine VV 8 rfl k_ ?_
 refine QM (A := [_, _, _, _, _, _, _, _, _, _, _, _, _]) (k := k) (z := (held.length : Int)) S M hr hrl2 rfl rfl k_ rfl rfl (M.sliceAt 0 rfl (M.cellsAt (k := 1) 0 rfl rfl) rfl (Nat.le_refl _) m_) ?_
 intro a wA r' hr' S M
 replace M := M.c_
 replace hC := M.blk 4 rfl
 refine nxC ⟨fun h => absurd h d_, hC, ?_⟩
 refine JT 9 S rfl hC (fun w _ => VM (m := 32) (sz := 1) S k_ rfl rfl f_) ?_; intro a S
 replace S := S.n_
 refine VV 10 rfl k_ ?_
 refine Ju (sz := 1) (us := [_]) S M 7 rfl k_ rfl rfl rfl rfl rfl rfl (by rw [WV, hRI.1]; show _ + 1 ≤ 32; omega) ?_; intro w45 M
 replace M := M.s_
 replace hC := M.blk 4 rfl
 refine nxC ⟨fun h => absurd h d_, hC, ?_⟩
 refine vS k_ ?_
 replace S := S.keep [4, 8, 9, 10, 14, 15, 59, 65, 66, 67, 68, 17, 18, 83, 13, 92]
 refine gp [[2]] ?_; intro a S
 replace M := M.drp 0
 rw [WU (by rw [hRI.1]; exact hk32)] at M
 refine gp [[1,1,9],[902,1,5]] ?_; intro a S
 refine JG (ps := [(0, .tmp 105)]) (e := 110) (sz := 5) (zl := cz9) (cs := [_, _, _, _, _]) S M rfl rfl k_ rfl (rfl) ?_; intro a w46 bZ2 S M hB
 refine qP_ (e := 110) (sz := 5) (by_ := 40) (zc := cz9) S M 11 rfl rfl rfl (show Rd _ _ _ 5 _ 1 x.cellsL from M.sliceAt 0 rfl (M.cellsAt (k := 5) 0 rfl rfl) rfl (Nat.le_refl _) m_) ?_; intro a w47 vA loA hiA S M
 obtain ⟨aB, cB, rfl, -, -⟩ := (M.readAll 0 rfl m_).form
 replace M := M.drp 1
 refine qY S (VH (k := 0) S k_ rfl) ?_
 refine go [[900,9],[2],[910,6],[911,0,1]] ?_; intro a w49 S M
 refine kR 1 S rfl M (fun w M => Ja (cs := [_, _, _, _, _]) S k_ rfl rfl (M.cellsAt (k := 5) 2 rfl rfl)) ?_
 refine gp [[911,3,1,10]] ?_; intro a S
 refine Jj 5 S rfl (fun w => qH 110 S) ?_; intro a S
 refine k1_ 2 ?_
 refine qK S rfl (YP x _) M ?_; intro a w50 S hK M
 refine kH_ hK ?_
 refine k1_ 6 ?_
 refine VU (pos := 8) S M (zr) (hG) Tryz.underlying376 rfl rfl rfl rfl rfl ?_; intro w51 M
 replace M := M.s_
 refine kn_ ?_
 refine gp [[4],[901],[0,1],[2]] ?_; intro a S
 replace M := M.drp 2
 replace M := M.od [10, 1, 10, 10, 10, 10, 10, 10, 8, 10, 10]
 have e1 : (gone ++ [x]).length = gone.length + 1 := by simp
 have e2 : Jg (gone ++ [x]) = Jg gone ++ x.cellsL := by rw [Vn]; simp [Jg]
 first
  | (have hgr : JU held x = held ++ [x] := by unfold JU; rw [if_pos h92]
     have hno : ∀ q ∈ held, q.pl ≠ x.pl := by
      rcases vP held x.pl with ⟨-, h8⟩ | ⟨i8, q8, h8, -⟩
      ·exact h8
      ·omega
     have e3 : (held ++ [x]).length = held.length + 1 := by simp
     have e4 : Jg (held ++ [x]) = Jg held ++ x.cellsL := by rw [Vn]; simp [Jg]
     rw [hgr] at hgo
     exact ⟨row.length - (j + 1), by omega, j + 1, held ++ [x], gone ++ [x], Q.set k r', _, _, _, _, aA, aB, cA, cB, _, _, _, _, by omega, rfl, hgo, by omega, by omega, hG.put _ _, hPI.put hno rfl, hRI.put hxb hr hr', hGG.put _ _, hGI.put, by rw [e1]; exact S.sub _ rfl, by rw [e1, e2, e3, e4]; exact M⟩)
  | (have hgr : JU held x = held.set i9 q9.strong := by
      unfold JU
      rw [if_neg h92, if_pos h116, show (Yw held x.pl - 1).toNat = i9 by omega, hq9]
     have e3 : (held.set i9 q9.strong).length = held.length := List.length_set
     rw [hgr] at hgo
     exact ⟨row.length - (j + 1), by omega, j + 1, held.set i9 q9.strong, gone ++ [x], Q, _, _, _, _, aA, va1, cA, vc1, _, _, _, _, by omega, rfl, hgo, by omega, by omega, hG, hPI.strong hq9, hRI.strong hq9, hGG.put _ _, hGI.put, by rw [e1]; exact S.sub _ rfl, by rw [e1, e2, e3]; exact M⟩)
  | (have hgr : JU held x = held := by unfold JU; rw [if_neg h92, if_neg (by rw [h116]; decide)]
     rw [hgr] at hgo
     exact ⟨row.length - (j + 1), by omega, j + 1, held, gone ++ [x], Q, _, _, _, _, aA, va1, cA, vc1, _, _, _, _, by omega, rfl, hgo, by omega, by omega, hG, hPI, hRI, hGG.put _ _, hGI.put, by rw [e1]; exact S.sub _ rfl, by rw [e1, e2]; exact M⟩)
end
end Go.Proofs.YtocppoflhllelaaGreat
