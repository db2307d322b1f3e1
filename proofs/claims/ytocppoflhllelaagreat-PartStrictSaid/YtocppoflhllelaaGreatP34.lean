/-
  What PartStrict rests on, part 34.
-/
import Derived.Test.YtocppoflhllelaaGreatP32
namespace Go.Proofs.YtocppoflhllelaaGreat
open Go.RowKit Go.Sort
def Zl (lv : List Lr) (g : Lk) : Option Nat := lv.findIdx? fun q => q.1.name.eqb g.name && (!q.1.told && q.1.exec.block == g.block)
def Px.onAt (X : Px) (self : Int) (h : List V8) (k : Nat) : Px := match X.lv[k]? with
 | some q => X.on self h k q
 | none => X
def grK (self : Int) (h : List V8) : List Lk → Px → List Nat
 | [], _ => []
 | g :: gs, X => match Zl X.lv g with
   | some k => k :: grK self h gs (X.onAt self h k)
   | none => grK self h gs X
def Px.ons (X : Px) (self : Int) (h : List V8) (ks : List Nat) : Px := ks.foldl (fun X k => X.onAt self h k) X
theorem Px.ons_snoc (X : Px) (self : Int) (h : List V8) (ks : List Nat) (k : Nat) : X.ons self h (ks ++ [k]) = (X.ons self h ks).onAt self h k := by
 grind [Px.ons]
theorem SortL.inj {l : List Lr} (h : SortL l) {i j : Nat} {p q : Lr} (hp : l[i]? = some p) (hq : l[j]? = some q) (e : p.1.name = q.1.name) : i = j := by
 rcases Nat.lt_trichotomy i j with h1 | h1 | h1
 ·have := h.less h1 hp hq; grind [Nm.less_irr]
 ·exact h1
 ·have := h.less h1 hq hp; grind [Nm.less_irr]
theorem vr {l : List Lr} {g : Lk} {k : Nat} {q : Lr} (h : SortL l) (hq : l[k]? = some q) (hn : q.1.name = g.name) (ht : q.1.told = false) (hb : q.1.exec.block = g.block) : Zl l g = some k := by
 unfold Zl
 have hk := (List.getElem?_eq_some_iff.1 hq).1
 have e := (List.getElem?_eq_some_iff.1 hq).2
 rw [List.findIdx?_eq_some_iff_getElem]
 refine ⟨hk, by grind [Nm.eqb_iff], fun j hj => ?_⟩
 simp only [Bool.not_eq_true, Bool.and_eq_false_iff]
 refine .inl ?_
 cases hx : (l[j].1.name.eqb g.name) with
 | false => rfl
 | true =>
   have := h.inj (List.getElem?_eq_getElem (Nat.lt_trans hj hk)) hq (by grind [Nm.eqb_iff])
   omega
theorem Kw {l : List Lr} {g : Lk} {k : Nat} {q : Lr} (h : SortL l) (hq : l[k]? = some q) (hn : q.1.name = g.name) (ht : ¬ (q.1.told = false ∧ q.1.exec.block = g.block)) : Zl l g = none := by
 unfold Zl
 rw [List.findIdx?_eq_none_iff]
 intro p hp
 obtain ⟨j, hj⟩ := List.getElem?_of_mem hp
 rw [Bool.and_eq_false_iff]
 by_cases e : p.1.name = g.name
 ·obtain rfl := h.inj hj hq (by grind)
  grind
 grind [Nm.eqb_iff]
theorem yY {l : List Lr} {g : Lk} {k : Nat} (h : yo l g.name k false) : Zl l g = none := by
 obtain ⟨-, ⟨h1, -⟩ | ⟨-, h1, h2⟩⟩ := h
 ·cases h1
 grind [Zl, List.getElem?_of_mem, Nm.eqb_iff, Nm.less_irr]
structure GrC (C : PxC) (er : Int) (bl bx : Nat) (ga : Option Addr) (gc : Nat) (gone : List Lk) (d : PxD × List Ent) (X : Px) (W : World) : Prop where
 bl : Blk W bl #[.slice ga gone.length gc] 28
 bx : Blk W bx #[pB C.b] 103
 row : LsL 0 W.heap.size W (.slice ga gone.length gc) gone
 ok : PxI d.1 X d.2
 mach : ∃ wc R, Mem wc W (d.1.ents X C er (d.2 ++ R))
section
variable {C : PxC} {er : Int} {bl bx : Nat} {ga : Option Addr} {gc : Nat} {gone : List Lk} {d : PxD × List Ent} {X : Px} {W : World}
theorem GrC.blk (h : GrC C er bl bx ga gc gone d X W) : Blk W C.b (d.1.cells X C er) 106 := let ⟨_, _, M⟩ := h.mach; M.blk 0 rfl
theorem GrC.live (h : GrC C er bl bx ga gc gone d X W) (hf : X.few) : RowC lvS d.1.lcs 0 W.heap.size W (.slice d.1.la X.lv.length d.1.lc) X.lv := let ⟨_, _, M⟩ := h.mach; h.ok.live M hf
theorem GrC.find (h : GrC C er bl bx ga gc gone d X W) (hr : SortL X.lv) (hf : X.few) (n : Nm) : CT 130 #[pB C.b, .agg n.cells] W fun e w' => ∃ (k : Nat) (y : Bool), e = .returned (.tuple #[.int .i64 (k : Int), .bool y]) ∧ Below W.heap.size W w' ∧ yo X.lv n k y :=
 let ⟨_, _, M⟩ := h.mach; yL ⟨d.1, d.2, h.ok, M⟩ hr hf n
end
theorem Jal (b : Nat) (va : Option Addr) (vn vc : Nat) (w : World) : CT 224 #[pB b, .slice va vn vc] w fun e w' => ∃ bl bx, e = .returned (.func (.func 292) #[] #[p_ bl, p_ bx]) ∧ Mem w w' [.blk bl #[.slice va vn vc] 28, .blk bx #[pB b] 103] := by
 have M := Mem.start w
 refine qI Tryz.func224 6 ?_; intro a S
 refine nxD (VA S M rfl rfl rfl #[_] rfl ?_); intro a w1 bX S M hB
 refine VA S M rfl rfl rfl #[_] rfl ?_; intro a w2 bL S M hB
 refine qG [1] S ?_; intro a S
 refine nxA (qY S (Jx (fs := []) (cs := [.tmp 3, .tmp 2]) S rfl rfl) ?_); intro a S
 refine gp [[0,1],[3],[930]] ?_
 grind
abbrev Jhd (k : Nat) : List Value := [.int .i64 (k : Int)]
set_option maxHeartbeats 1000000 in
theorem Em (C : PxC) (er : Int) (bl bx : Nat) (ga : Option Addr) (gc : Nat) (gone : List Lk) (X0 : Px) (h : List V8) (hok : ∀ pre t, grK C.self h gone X0 = pre ++ t → SortL (X0.ons C.self h pre).lv ∧ (X0.ons C.self h pre).few) :
 Jji Tryz.prog 292 [p_ bl, p_ bx] Jhd (grK C.self h gone X0) (fun d pre => GrC C er bl bx ga gc gone d (X0.ons C.self h pre)) := by
 intro ll w0 I X w Hs0 hC hY h0 M
 obtain ⟨d0, hd0⟩ := hC _ _ h0
 have K0 := hd0 _ M
 have hpl := K0.row.2.1
 unfold maxLen at hpl
 refine vh Tryz.func292 rfl 56 rfl rfl ?_; intro a S
 refine wpIn_seq ?_
 refine Jq k_ (by rintro _ _ ⟨⟨_, h⟩, -⟩; cases h) ?_
 refine qY S (Jf S k_ rfl (K0.bl.cells 0)) ?_
 refine gp [[903,110],[0,1],[2]] ?_; intro a S
 refine wpIn_block ?_
 refine jW (fun m a w' => ∃ (i : Nat) (pre : List Nat) (Hs : List Ent), i ≤ gone.length ∧ m = gone.length - i ∧ I pre Hs ∧ pre ++ grK C.self h (gone.drop i) (X0.ons C.self h pre) = grK C.self h gone X0 ∧ Jk 56 a [(0, .func (.yield ll) #[] #[]), (1, p_ bl), (2, p_ bx), (8, .slice ga gone.length gc), (9, .int .i64 (gone.length : Int)), (10, .int .i64 (i : Int))] ∧ Mem w0 w' Hs) (gone.length) ?_ ?_
 ·skip
  exact ⟨0, [], Hs0, Nat.zero_le _, rfl, h0, rfl, S.sub _ rfl, M⟩
 intro m a wl
 rintro ⟨i, pre, Hs, hi', rfl, hI, hpre, S, M⟩
 obtain ⟨d, hd⟩ := hC _ _ hI
 obtain ⟨hsrt, hf⟩ := hok pre _ hpre.symm
 refine wpIn_seq ?_
 refine Jq k_ (by rintro _ _ ⟨⟨_, h⟩, -⟩; cases h) ?_
 refine qG [1] S ?_; intro a S
 refine nxC (wpIn_seq ?_)
 refine qf 11 S ?_ ?_
 ·intro h11 S
  refine Vc S rfl ?_
  refine wpIn_exit ?_
  refine gp [[3]] ?_; intro a S
  refine JD S rfl ?_
  obtain rfl : i = gone.length := by omega
  rw [List.drop_length] at hpre
  exact ⟨⟨_, rfl⟩, Hs, M, .inl (by rw [← hpre]; simpa [grK] using hI)⟩
 intro h11 S
 refine Ya S rfl ?_
 refine wpIn_skip ?_
 refine Jn (wpIn_seq ?_)
 refine wpIn_block ?_
 refine wpIn_seq ?_
 obtain ⟨x, hx⟩ : ∃ x, gone[i]? = some x := ⟨_, List.getElem?_eq_getElem o_⟩
 have hdr : gone.drop i = x :: gone.drop (i + 1) := by
  obtain ⟨h9, e9⟩ := List.getElem?_eq_some_iff.1 hx
  rw [List.drop_eq_getElem_cons h9, e9]
 rw [hdr, grK] at hpre
 refine Jq k_ (by rintro _ _ ⟨⟨_, h⟩, -⟩; cases h) ?_
 refine qY S (qX 110 5 S ((hd _ M).row)) ?_; intro a S
 replace S := S.n_
 refine qY S (Ja S k_ rfl rfl ((hd _ M).row.at_.row (i := i) (J6 hx) rfl)) ?_; intro a S
 refine qN S M yg ?_; intro a w1 bKP S M hB
 refine go [[900,0],[2]] ?_; intro a w2 S M
 refine wpIn_seq ?_
 refine Jq k_ (by rintro _ _ ⟨⟨_, h⟩, -⟩; cases h) ?_
 refine qY S (Jf S k_ rfl ((hd _ (M.drop 0)).bx.cells 0)) ?_
 refine gp [[0,1],[902,0,3]] ?_; intro a S
 refine qD S rfl ((hd _ (M.drop 0)).find hsrt hf x.name) ?_
 rintro _ w3 ⟨k, y, rfl, hK, hF⟩; replace M := M.grow hK
 refine gp [[0,1,1,1,1,1],[2]] ?_; intro a S
 refine wpIn_seq ?_
 obtain ⟨q, lq, hq⟩ : ∃ (q : Lr) (lq : Value), y = true → ((X0.ons C.self h pre).lv[k]? = some q ∧ q.1.name = x.name) ∧ (d.1.lcs.drop (k * 54)).take 54 = q.1.cellsL lq := by
  cases y with
  | false => exact ⟨(zLv, []), Jz, fun h => (by cases h)⟩
  | true =>
    obtain ⟨-, ⟨-, q, h1, h2⟩ | ⟨h1, -⟩⟩ := hF
    ·obtain ⟨lq, h3, -⟩ := (hd _ (M.drop 0)).ok.lv.at h1
     exact ⟨q, lq, fun _ => ⟨⟨h1, h2⟩, h3⟩⟩
    ·cases h1
 refine Jfb 31 M k_ k_ k_ (by rintro _ _ ⟨⟨_, h⟩, -⟩; cases h) ?_; simp only [List.take_succ_cons, List.take_zero, List.drop_succ_cons, List.drop_zero]
 refine gp [[921,1,1]] ?_; intro a S
 refine qf 22 S ?_ ?_
 ·intro h22 S
  refine Vo 6 S rfl ?_
  refine gp [[921,0]] ?_; intro a S
  refine Vo 3 S rfl ?_
  refine gp [[921,1,1]] ?_; intro a S
  refine Vo 13 S rfl ?_
  refine gp [[921,1,1]] ?_; intro a S
  refine Vo 2 S rfl ?_; intro a S
  refine wpQuiet_nil ?_; intro w8 M
  refine Yq k_ (by rintro _ _ ⟨⟨_, h⟩, -⟩; cases h) ?_
  refine gp [[0,0,0,1],[2]] ?_; intro a S
  refine Vc S rfl ?_
  refine wpIn_skip ?_
  refine Jy (Jn (Jq k_ (by rintro _ _ ⟨⟨_, h⟩, -⟩; cases h) ?_))
  refine gp [[901],[0,1],[2]] ?_; intro a S
  replace M := M.drp 0
  first
   | (have hI2 : I (pre ++ [k]) Hs2 := by
       rcases hb with ⟨-, h⟩ | ⟨rfl, -⟩
       ·exact h
       ·cases h54
      rw [vr hsrt (hq h22).1.1 (hq h22).1.2 (by simpa using h34) (by simpa using h49)] at hpre
      exact ⟨gone.length - (i + 1), by omega, i + 1, pre ++ [k], Hs2, by omega, rfl, hI2, by rw [← hpre, Px.ons_snoc, List.append_assoc]; rfl, S.sub _ rfl, M⟩)
   | (suffices hno : Zl (X0.ons C.self h pre).lv x = none by
       rw [hno] at hpre
       exact ⟨gone.length - (i + 1), by omega, i + 1, pre, Hs, by omega, rfl, hI, hpre, S.sub _ rfl, M⟩
      first
       | (exact Kw hsrt (hq h22).1.1 (hq h22).1.2 fun h => by first | (rw [h.1] at h34; cases h34; done) | (rw [h.2] at h49; simp at h49; done) | simp_all)
       | (obtain rfl : y = false := by simpa using h22
          exact yY hF))
 intro h22 S
 refine qU S (fun w M => Jf S k_ rfl ((hd _ (M.drop 0)).bx.cells 0)) ?_
 refine gp [[921,1,1,3]] ?_; intro a S
 refine qU S (fun w M => Jf S k_ rfl ((hd _ (M.drop 0)).blk.cells 2)) ?_
 refine gp [[921,1]] ?_; intro a S
 have hkl := (List.getElem?_eq_some_iff.1 (hq h22).1.1).1
 refine qU S (fun w M => qX 59 54 S (((hd _ (M.drop 0)).live hf).1)) ?_; intro a S
 replace S := S.n_
 refine gp [[921,5]] ?_; intro a S
 refine qU S (fun w M => Jf S k_ rfl (((hd _ (M.drop 0)).live hf).1.at_.row (i := k) (hq h22).2 rfl 4 (by show 4 < 54; omega))) ?_
 refine gp [[921,1,1,1]] ?_; intro a S
 refine qf 34 S ?_ ?_
 ·intro h34 S
  refine Vo 13 S rfl ?_
  refine gp [[921,1,1]] ?_; intro a S
  refine Vo 2 S rfl ?_; intro a S
  refine wpQuiet_nil ?_; intro w7 M
  refine Yq k_ (by rintro _ _ ⟨⟨_, h⟩, -⟩; cases h) ?_
  refine gp [[0,0,0,1],[2]] ?_; intro a S
  refine Vc S rfl ?_
  refine wpIn_skip ?_
  refine Jy (Jn (Jq k_ (by rintro _ _ ⟨⟨_, h⟩, -⟩; cases h) ?_))
  refine gp [[901],[0,1],[2]] ?_; intro a S
  replace M := M.drp 0
  first
   | (have hI2 : I (pre ++ [k]) Hs2 := by
       rcases hb with ⟨-, h⟩ | ⟨rfl, -⟩
       ·exact h
       ·cases h54
      rw [vr hsrt (hq h22).1.1 (hq h22).1.2 (by simpa using h34) (by simpa using h49)] at hpre
      exact ⟨gone.length - (i + 1), by omega, i + 1, pre ++ [k], Hs2, by omega, rfl, hI2, by rw [← hpre, Px.ons_snoc, List.append_assoc]; rfl, S.sub _ rfl, M⟩)
   | (suffices hno : Zl (X0.ons C.self h pre).lv x = none by
       rw [hno] at hpre
       exact ⟨gone.length - (i + 1), by omega, i + 1, pre, Hs, by omega, rfl, hI, hpre, S.sub _ rfl, M⟩
      first
       | (exact Kw hsrt (hq h22).1.1 (hq h22).1.2 fun h => by first | (rw [h.1] at h34; cases h34; done) | (rw [h.2] at h49; simp at h49; done) | simp_all)
       | (obtain rfl : y = false := by simpa using h22
          exact yY hF))
 intro h34 S
 refine qU S (fun w M => Jf S k_ rfl ((hd _ (M.drop 0)).bx.cells 0)) ?_
 refine gp [[921,1,1,3]] ?_; intro a S
 refine qU S (fun w M => Jf S k_ rfl ((hd _ (M.drop 0)).blk.cells 2)) ?_
 refine gp [[921,1]] ?_; intro a S
 refine qU S (fun w M => qX 59 54 S (((hd _ (M.drop 0)).live hf).1)) ?_; intro a S
 replace S := S.n_
 refine gp [[921,30,11]] ?_; intro a S
 refine qU S (fun w M => Jf S k_ rfl (((hd _ (M.drop 0)).live hf).1.at_.row (i := k) (hq h22).2 rfl 39 (by show 39 < 54; omega))) ?_
 refine gp [[921,4,1,1,1,1]] ?_; intro a S
 refine qf 49 S ?_ ?_
 ·intro h49 S
  refine Vo 2 S rfl ?_; intro a S
  refine wpQuiet_nil ?_; intro w6 M
  refine Yq k_ (by rintro _ _ ⟨⟨_, h⟩, -⟩; cases h) ?_
  refine gp [[0,0,0,1],[2]] ?_; intro a S
  refine Vc S rfl ?_
  refine wpIn_skip ?_
  refine Jy (Jn (Jq k_ (by rintro _ _ ⟨⟨_, h⟩, -⟩; cases h) ?_))
  refine gp [[901],[0,1],[2]] ?_; intro a S
  replace M := M.drp 0
  first
   | (have hI2 : I (pre ++ [k]) Hs2 := by
       rcases hb with ⟨-, h⟩ | ⟨rfl, -⟩
       ·exact h
       ·cases h54
      rw [vr hsrt (hq h22).1.1 (hq h22).1.2 (by simpa using h34) (by simpa using h49)] at hpre
      exact ⟨gone.length - (i + 1), by omega, i + 1, pre ++ [k], Hs2, by omega, rfl, hI2, by rw [← hpre, Px.ons_snoc, List.append_assoc]; rfl, S.sub _ rfl, M⟩)
   | (suffices hno : Zl (X0.ons C.self h pre).lv x = none by
       rw [hno] at hpre
       exact ⟨gone.length - (i + 1), by omega, i + 1, pre, Hs, by omega, rfl, hI, hpre, S.sub _ rfl, M⟩
      first
       | (exact Kw hsrt (hq h22).1.1 (hq h22).1.2 fun h => by first | (rw [h.1] at h34; cases h34; done) | (rw [h.2] at h49; simp at h49; done) | simp_all)
       | (obtain rfl : y = false := by simpa using h22
          exact yY hF))
 intro h49 S
 refine go [[921,1,1],[1]] ?_; intro a w4 S M
 refine vM (xs := [.tmp 51]) S rfl k_ rfl rfl (hY pre k _ [_] Hs _ (by rw [← hpre, vr hsrt (hq h22).1.1 (hq h22).1.2 (by simpa using h34) (by simpa using h49)]) hI M) ?_
 rintro e w5 ⟨Hs2, M2, hh⟩
 obtain ⟨bb, rfl, hb⟩ : ∃ bb, e = .returned (.bool bb) ∧ ((bb = true ∧ I (pre ++ [k]) Hs2) ∨ (bb = false ∧ X (pre ++ [k]) Hs2)) := by
  rcases hh with ⟨rfl, h⟩ | ⟨rfl, h⟩
  ·exact ⟨true, rfl, .inl ⟨rfl, h⟩⟩
  ·exact ⟨false, rfl, .inr ⟨rfl, h⟩⟩
 refine ⟨_, rfl, ?_⟩; intro a S; have M := M2; clear M2
 replace M := M.c_
 refine Yq k_ (by rintro _ _ ⟨⟨_, h⟩, -⟩; cases h) ?_
 refine gp [[0,1,1],[2]] ?_; intro a S
 refine Js (t := 54) S rfl ?_ ?_
 ·intro h54 S
  refine Ya S rfl ?_
  refine wpIn_ret ?_
  refine gp [[4]] ?_; intro a S
  refine JV S rfl ?_
  refine ⟨⟨_, rfl⟩, Hs2, M.drop 0, .inr ⟨pre, k, _, by rw [← hpre, vr hsrt (hq h22).1.1 (hq h22).1.2 (by simpa using h34) (by simpa using h49)], ?_⟩⟩
  rcases hb with ⟨rfl, -⟩ | ⟨-, h⟩
  ·cases h54
  ·exact h
 intro h54 S
 refine Vc S rfl ?_
 refine wpIn_skip ?_
 refine Jy (Jn (Jq k_ (by rintro _ _ ⟨⟨_, h⟩, -⟩; cases h) ?_))
 refine gp [[901],[0,1],[2]] ?_; intro a S
 replace M := M.drp 0
 first
  | (have hI2 : I (pre ++ [k]) Hs2 := by
      rcases hb with ⟨-, h⟩ | ⟨rfl, -⟩
      ·exact h
      ·cases h54
     rw [vr hsrt (hq h22).1.1 (hq h22).1.2 (by simpa using h34) (by simpa using h49)] at hpre
     exact ⟨gone.length - (i + 1), by omega, i + 1, pre ++ [k], Hs2, by omega, rfl, hI2, by rw [← hpre, Px.ons_snoc, List.append_assoc]; rfl, S.sub _ rfl, M⟩)
  | (suffices hno : Zl (X0.ons C.self h pre).lv x = none by
      rw [hno] at hpre
      exact ⟨gone.length - (i + 1), by omega, i + 1, pre, Hs, by omega, rfl, hI, hpre, S.sub _ rfl, M⟩
     first
      | (exact Kw hsrt (hq h22).1.1 (hq h22).1.2 fun h => by first | (rw [h.1] at h34; cases h34; done) | (rw [h.2] at h49; simp at h49; done) | simp_all)
      | (obtain rfl : y = false := by simpa using h22
         exact yY hF))
section
variable {l : List Lr} {q : Lr} {k : Nat} {X : Px}
/-! what a release grants -/
theorem DL : ∀ (row held gone : List Lk), ∃ m, (YT held gone row).2 = gone ++ row.take m
 | [], held, gone => ⟨0, by rw [YT]; simp⟩
 | x :: xs, held, gone => by
   by_cases hB : ju held x
   ·exact ⟨0, by grind [vN]⟩
   ·obtain ⟨m, hm⟩ := DL xs (JU held x) (gone ++ [x])
    exact ⟨m + 1, by grind [Kv]⟩
def HasL (h : List Lk) (x : Lk) : Prop := ∃ q ∈ h, q.pl = x.pl ∧ (x.excl = true → q.excl = true)
theorem HasL.grant {h : List Lk} {x y : Lk} (hx : HasL h x) : HasL (JU h y) x := by
 obtain ⟨q, hq, h1, h2⟩ := hx
 unfold JU
 split
 ·exact ⟨q, by grind, h1, h2⟩
 ·split
  ·split
   ·rename_i p hp
    obtain ⟨j, hj⟩ := List.getElem?_of_mem hq
    by_cases e : (Yw h y.pl - 1).toNat = j
    ·subst e
     rw [hj] at hp; obtain rfl := Option.some.inj hp
     exact ⟨q.strong, List.mem_of_getElem? (List.getElem?_set_self (List.getElem?_eq_some_iff.1 hj).1), h1, fun _ => rfl⟩
    ·exact ⟨q, List.mem_of_getElem? ((List.getElem?_set_ne e).trans hj), h1, h2⟩
   ·exact ⟨q, hq, h1, h2⟩
  ·exact ⟨q, hq, h1, h2⟩
theorem HasL.self (h : List Lk) (x : Lk) : HasL (JU h x) x := by
 unfold JU
 rcases vP h x.pl with ⟨h0, -⟩ | ⟨i, q, h0, hq, hp⟩
 ·rw [if_pos h0]; exact ⟨x, by simp, rfl, id⟩
 ·rw [if_neg o_]
  split
  ·rw [show (Yw h x.pl - 1).toNat = i by omega, hq]
   exact ⟨q.strong, List.mem_of_getElem? (List.getElem?_set_self (List.getElem?_eq_some_iff.1 hq).1), hp, fun _ => rfl⟩
  ·rename_i hx
   exact ⟨q, List.mem_of_getElem? hq, hp, fun h => absurd h hx⟩
theorem JbY (h : List Lk) (x : Lk) : (JU h x).length ≤ h.length + 1 := by
 unfold JU
 split
 ·simp
 ·split
  ·split
   ·simp_all
   ·omega
  ·omega
theorem DM : ∀ (row held gone : List Lk), (∀ y, HasL held y → HasL (YT held gone row).1 y) ∧ (∀ x ∈ (YT held gone row).2, x ∈ gone ∨ HasL (YT held gone row).1 x) ∧ (YT held gone row).1.length + gone.length ≤ held.length + (YT held gone row).2.length
 | [], held, gone => by grind [YT]
 | x :: xs, held, gone => by
   by_cases hB : ju held x
   ·grind [vN]
   ·rw [Kv hB]
    obtain ⟨h1, h2, h3⟩ := DM xs (JU held x) (gone ++ [x])
    have h4 := JbY held x
    refine ⟨fun y hy => h1 y hy.grant, fun y hy => ?_, by grind⟩
    rcases h2 y hy with h | h
    ·rcases List.mem_append.1 h with h | h
     ·grind
     ·rw [List.mem_singleton.1 h]; exact .inr (h1 x (.self held x))
    grind
theorem zX (h0 w0 : List Lk) : ∀ k : Nat, (∀ y, HasL h0 y → HasL (Vk h0 w0 k).1 y) ∧ (∀ x ∈ (Vk h0 w0 k).2, HasL (Vk h0 w0 k).1 x ∧ x ∈ w0 ∧ x.block < (k : Int)) ∧ (Vk h0 w0 k).1.length ≤ h0.length + (Vk h0 w0 k).2.length ∧ (w0.Nodup → (Vk h0 w0 k).2.Nodup)
 | 0 => ⟨fun _ h => h, fun x hx => (by cases hx), by grind [Vk], fun _ => by grind [Vk]⟩
 | k + 1 => by
   obtain ⟨h1, h2, h3, h4⟩ := zX h0 w0 k
   obtain ⟨r1, r2, r3⟩ := DM (w0.filter fun q => q.block == (k : Int)) (Vk h0 w0 k).1 (Vk h0 w0 k).2
   obtain ⟨m, hm⟩ := DL (w0.filter fun q => q.block == (k : Int)) (Vk h0 w0 k).1 (Vk h0 w0 k).2
   grind [Vk]
theorem JdA {h0 w0 : List Lk} (hn : (w0.map Lk.pl).Nodup) (k : Nat) : (Vk h0 w0 k).1.length + (Wc w0 (Vk h0 w0 k).2).length ≤ h0.length + w0.length := by
 obtain ⟨-, h2, h3, h4⟩ := zX h0 w0 k
 have hw := KR hn
 have hp : ((Vk h0 w0 k).2 ++ Wc w0 (Vk h0 w0 k).2).Perm w0 := by
  refine (List.perm_ext_iff_of_nodup ?_ hw).2 fun x => ?_
  ·rw [List.nodup_append]
   refine ⟨h4 hw, hw.sublist List.filter_sublist, fun a ha b hb e => ?_⟩
   subst e
   have := (List.mem_filter.1 hb).2
   grind
  ·rw [List.mem_append]
   constructor
   ·rintro (h | h)
    ·grind
    ·exact (List.mem_filter.1 h).1
   ·intro hx
    by_cases e : x.pl ∈ ((Vk h0 w0 k).2).map Lk.pl
    ·grind [JdS]
    ·exact .inr (List.mem_filter.2 ⟨hx, by grind⟩)
 have := hp.length_eq
 grind
/-! a write put in -/
theorem WX (y : Wr) (l : List Wr) (x : Wr) : VC (y :: l) x = if x.block ≤ y.block then x :: (if y.block = x.block then l else y :: l) else y :: VC l x := by
 unfold VC YV
 by_cases h : x.block ≤ y.block
 ·rw [if_pos h, Vm, if_pos h]
  grind
 ·rw [if_neg h, Vm, if_neg h]
  grind
theorem KO : ∀ {ws : List Wr} {x : Wr} {last : Int}, last < x.block → x.block < 32 → V7 last ws = true → V7 last (VC ws x) = true
 | [], x, last, h1, h2, _ => by grind [VC, V7]
 | y :: l, x, last, h1, h2, h3 => by
   rw [WX]
   simp only [V7, Bool.and_eq_true, decide_eq_true_eq] at h3
   by_cases h : x.block ≤ y.block
   ·grind [V7]
   ·rw [if_neg h]; simp only [V7, Bool.and_eq_true, decide_eq_true_eq]
    exact ⟨h3.1, KO o_ h2 h3.2⟩
theorem DR {ws : List Wr} {x : Wr} (hw : Jv ws = true) (h0 : 0 ≤ x.block) (h1 : x.block < 32) (hf : ¬ (YV ws x.block = false ∧ 8 ≤ ws.length)) : Jv (VC ws x) = true := by
 grind [Jv, KO, VC, YV]
theorem Jf6 (ws : List Wr) (x : Wr) : J8 (VC ws x) x.block = some x.val := by
 induction ws with
 | nil => grind [VC, J8]
 | cons y l ih =>
   grind [WX, J8]
theorem JfT {ws : List Wr} {x y : Wr} (h : y ∈ VC ws x) : y = x ∨ y ∈ ws := by
 grind [VC]
/-! who is granted goes on -/
def unL (l : List Lr) : Nat := l.countP fun q => !q.1.told
theorem JaE {q' : Lr} (hq : l[k]? = some q) (h1 : q.1.told = false) (h2 : q'.1.told = true) : unL (l.set k q') + 1 = unL l := by
 grind [unL]
theorem Jip (l : List Lr) : unL l ≤ l.length := List.countP_le_length
def ZSl (ea : Option Addr) (ec : Nat) : Prop := (ea = none ∧ ec = 0) ∨ (ea ≠ none ∧ ec ≤ maxLen)
structure PxGo (c o : Nat) (X : Px) : Prop where
 sort : SortL X.lv
 lv : X.lv.length ≤ 64
 ml : X.ml.length + unL X.lv ≤ c
 el : X.el.length ≤ 10
 ov : X.ov.length ≤ o
 tab : X.h.length + X.wt.length ≤ o
 wr : ∀ q ∈ X.lv, Jv q.2 = true
 ex : ∀ q ∈ X.lv, q.1.told = false → 0 ≤ q.1.exec.block ∧ q.1.exec.block < 32
 zs : ∀ q ∈ X.lv, ZSl q.1.ea q.1.ec
theorem PxGo.few {c o : Nat} (h : PxGo c o X) (hc : c ≤ 1000) (ho : o ≤ 1000) : X.few := by
 have h1 := h.lv; have h2 := h.ml; have h3 := h.el; have h4 := h.ov; have h5 := h.tab
 constructor <;> omega
theorem SortL.set {q' : Lr} (h : SortL l) (hq : l[k]? = some q) (hn : q'.1.name = q.1.name) : SortL (l.set k q') := by
 unfold SortL at h ⊢
 have e : (l.set k q').map (fun q => q.1.name) = l.map fun q => q.1.name := by
  rw [List.map_set, hn]
  refine List.ext_getElem? fun j => ?_
  grind
 grind
def onL (self : Int) (h : List V8) (q : Lr) : Lr :=
 if q.1.exec.op ≠ 1 then zF self q 0 (onV h q)
 else if YV q.2 q.1.exec.block = false ∧ 8 ≤ q.2.length then zF self q 50 zV8
 else zF self (onQ q) 0 q.1.exec.val
theorem Px.on_eq (X : Px) (self : Int) (h : List V8) (k : Nat) (q : Lr) : X.on self h k q = { X with lv := X.lv.set k (onL self h q), ml := X.ml ++ [((onL self h q).1.ans, [])] } := by
 unfold Px.on onL
 split
 ·rfl
 ·split
  ·rfl
  ·unfold Px.ans; simp only [List.set_set]; rfl
theorem JiJ (self : Int) (h : List V8) (q : Lr) : ZSl (onL self h q).1.ea (onL self h q).1.ec := by
 unfold onL; split
 ·exact .inl ⟨rfl, rfl⟩
 ·split <;> exact .inl ⟨rfl, rfl⟩
theorem Gh (self : Int) (h : List V8) (q : Lr) : (onL self h q).1.name = q.1.name ∧ (onL self h q).1.told = true := by
 unfold onL; split
 ·exact ⟨rfl, rfl⟩
 ·split <;> exact ⟨rfl, rfl⟩
theorem JiK (self : Int) (h : List V8) (q : Lr) (hw : Jv q.2 = true) (hb : 0 ≤ q.1.exec.block ∧ q.1.exec.block < 32) : Jv (onL self h q).2 = true := by
 unfold onL; split
 ·exact hw
 ·split
  ·exact hw
  ·exact DR (x := ⟨q.1.exec.block, q.1.exec.val⟩) hw hb.1 hb.2 o_
theorem PxGo.on {c o : Nat} (H : PxGo c o X) (self : Int) (h : List V8) (hq : X.lv[k]? = some q) (ht : q.1.told = false) : PxGo c o (X.on self h k q) := by
 rw [Px.on_eq]
 have hm := List.mem_of_getElem? hq
 have h1 := JaE hq ht (Gh self h q).2
 have h2 := H.ml
 refine ⟨H.sort.set hq (Gh self h q).1, by show (X.lv.set _ _).length ≤ 64; rw [List.length_set]; exact H.lv, ?_, H.el, H.ov, H.tab, fun p hp => ?_, fun p hp hn => ?_, fun p hp => ?_⟩
 ·grind
 ·rcases List.mem_or_eq_of_mem_set hp with h3 | rfl
  ·exact H.wr p h3
  ·exact JiK self h q (H.wr q hm) (H.ex q hm ht)
 ·rcases List.mem_or_eq_of_mem_set hp with h3 | rfl
  ·exact H.ex p h3 hn
  grind [Gh]
 ·rcases List.mem_or_eq_of_mem_set hp with h3 | rfl
  ·exact H.zs p h3
  grind [JiJ]
theorem Xa {g : Lk} (h : Zl l g = some k) : ∃ q, l[k]? = some q ∧ q.1.name = g.name ∧ q.1.told = false ∧ q.1.exec.block = g.block := by
 grind [Zl, List.findIdx?_eq_some_iff_getElem, Nm.eqb_iff]
theorem Ui {self : Int} {h : List V8} : ∀ {gone : List Lk} {X : Px} {pre t : List Nat} {k : Nat}, grK self h gone X = pre ++ k :: t → ∃ g ∈ gone, Zl (X.ons self h pre).lv g = some k
 | [], X, pre, t, k, e => by rw [grK] at e; simp at e
 | g :: gs, X, pre, t, k, e => by
   rw [grK] at e
   cases hp : Zl X.lv g with
   | none =>
     rw [hp] at e
     obtain ⟨g', h1, h2⟩ := Ui (gone := gs) e
     grind
   | some j =>
     rw [hp] at e
     cases pre with
     | nil =>
       simp only [List.nil_append, List.cons.injEq] at e
       exact ⟨g, .head _, by rw [← e.1]; exact hp⟩
     | cons p pre =>
       simp only [List.cons_append, List.cons.injEq] at e
       obtain ⟨rfl, e⟩ := e
       obtain ⟨g', h1, h2⟩ := Ui (gone := gs) e
       exact ⟨g', .tail _ h1, h2⟩
theorem Wh {self : Int} {h : List V8} {gone : List Lk} {I : Px → Prop} (h0 : I X) (hs : ∀ (Y : Px) (g : Lk) (k : Nat) (q : Lr), I Y → g ∈ gone → Y.lv[k]? = some q → q.1.name = g.name → q.1.told = false → q.1.exec.block = g.block → I (Y.on self h k q)) :
 ∀ {pre t : List Nat}, grK self h gone X = pre ++ t → I (X.ons self h pre) := by
 suffices H : ∀ (r t : List Nat), grK self h gone X = r.reverse ++ t → I (X.ons self h r.reverse) by
  intro pre t e
  have := H pre.reverse t
  grind
 intro r
 induction r with
 | nil => intro t _; exact h0
 | cons k r ih =>
   grind [Ui, Xa, Px.ons_snoc, Px.onAt]
end
def EndH (L A : List Ent) (C : PxC) (X : Px) (er : Int) (bd : Nat) (s : Sh) (S : DS) (Hs : List Ent) : Prop :=
 ∃ (da : Option Addr) (dc lo hi : Nat) (cs : List Value) (es' E : List Ent) (D : PxD) (es : List Ent), DkE bd S E ∧ PrBk cs s.ps es' ∧ PxI D X es ∧ Hs = L ++ D.ents X C er (es ++ stE C.bs bd s da dc lo hi cs (es' ++ (A ++ E)))
section
variable {wc w : World} {L A Hs T : List Ent} {C : PxC} {X : Px} {er : Int} {bd : Nat} {s : Sh} {S : DS}
theorem Et {α : Type} {L P es st es' A E T : List α} : ((L ++ (P ++ (es ++ (st ++ (es' ++ (A ++ E)))))) ++ T).Perm (L ++ (P ++ (es ++ (st ++ (es' ++ ((A ++ T) ++ E)))))) := by
 simp only [List.append_assoc]
 exact (((((List.perm_append_comm).append_left A).append_left es').append_left st).append_left es).append_left P |>.append_left L
theorem EndH.open (h : EndH L A C X er bd s S Hs) (M : Mem wc w (Hs ++ T)) : PxS wc w (L ++ (A ++ T)) C X er bd s S := by
 obtain ⟨da, dc, lo, hi, cs, es', E, D, es, hE, hQ, hI, rfl⟩ := h
 exact PxS.closeL (da := da) (dc := dc) (lo := lo) (hi := hi) hE hQ hI (M.perm (Et (P := D.ents X C er []) (st := [_, _])))
theorem EndH.close (W : PxS wc w (L ++ (A ++ T)) C X er bd s S) : ∃ Hs, EndH L A C X er bd s S Hs ∧ Mem wc w (Hs ++ T) := by
 obtain ⟨da, dc, lo, hi, cs, es', E, D, es, hE, hQ, hI, M⟩ := W.openL
 exact ⟨_, ⟨da, dc, lo, hi, cs, es', E, D, es, hE, hQ, hI, rfl⟩, M.perm (Et (P := D.ents X C er []) (st := [_, _])).symm⟩
theorem EndH.gr {bl bx lo3 hi3 : Nat} {ga : Option Addr} {gc : Nat} {gone : List Lk} (hg : gone.length ≤ maxLen) (h : EndH (.blk bl #[.slice ga gone.length gc] 28 :: .blk bx #[pB C.b] 103 :: Jd lo3 hi3 110 5 (.slice ga gone.length gc) gone.length (Jg gone) :: L) A C X er bd s S Hs) :
 ∃ d, ∀ W T, Mem wc W (Hs ++ T) → GrC C er bl bx ga gc gone d X W := by
 obtain ⟨da, dc, lo, hi, cs, es', E, D, es, hE, hQ, hI, rfl⟩ := h
 refine ⟨(D, es), fun W T M => ⟨M.blk 0 rfl, M.blk 1 rfl, M.readAll 2 rfl hg, hI, wc, stE C.bs bd s da dc lo hi cs (es' ++ (A ++ E)) ++ T, M.sub ?_⟩⟩
 have e : (L ++ D.ents X C er (es ++ stE C.bs bd s da dc lo hi cs (es' ++ (A ++ E)))) ++ T = L ++ D.ents X C er (es ++ (stE C.bs bd s da dc lo hi cs (es' ++ (A ++ E)) ++ T)) := by
  grind
 exact .cons _ (.cons _ (.cons _ (by
  simp_all)))
end
noncomputable def Px.end0 (X : Px) (n : Nm) (e : Int) : Px := { X with
 ov := X.ov ++ [(n, e)]
 h := (Vk (X.h.filter fun q => !q.name.eqb n) (X.wt.filter fun q => !q.name.eqb n) 32).1
 wt := Wc (X.wt.filter fun q => !q.name.eqb n) (Vq X.h X.wt n) }
noncomputable def Px.end_ (X : Px) (self : Int) (h : List V8) (n : Nm) (e : Int) : Px := (X.end0 n e).ons self h (grK self h (Vq X.h X.wt n) (X.end0 n e))
theorem PxGo.end0 {c o : Nat} {X : Px} (H : PxGo c o X) (hok : OkT X.h X.wt) (n : Nm) (e : Int) : PxGo c (o + 1) (X.end0 n e) := by
 have h1 := H.tab
 have h2 := H.ov
 have h3 := JdA (h0 := X.h.filter fun q => !q.name.eqb n) (hok.wnodup.sublist ((List.filter_sublist (p := fun q : Lk => !q.name.eqb n)).map _)) 32
 have h4 := List.length_filter_le (fun q : Lk => !q.name.eqb n) X.h
 have h5 := List.length_filter_le (fun q : Lk => !q.name.eqb n) X.wt
 refine ⟨H.sort, H.lv, H.ml, H.el, by show (X.ov ++ [_]).length ≤ _; grind, ?_, H.wr, H.ex, H.zs⟩
 show (Vk _ _ 32).1.length + (Wc _ (Vk _ _ 32).2).length ≤ o + 1
 omega
theorem PxGo.ons {c o : Nat} {X : Px} (H : PxGo c o X) {self : Int} {h : List V8} {gone : List Lk} {pre t : List Nat} (e : grK self h gone X = pre ++ t) : PxGo c o (X.ons self h pre) :=
 Wh (I := PxGo c o) H (fun _ _ _ _ hY _ hq _ ht _ => hY.on self h hq ht) e
theorem PxGo.end_ {c o : Nat} {X : Px} (H : PxGo c o X) (hok : OkT X.h X.wt) (self : Int) (h : List V8) (n : Nm) (e : Int) : PxGo c (o + 1) (X.end_ self h n e) :=
 (H.end0 hok n e).ons (t := []) (List.append_nil _).symm
section
variable {w0 w : World} {A : List Ent} {C : PxC} {X : Px} {er : Int} {bd : Nat} {s : Sh} {Sd : DS}
set_option maxHeartbeats 2000000 in
theorem Qn {N : Int} {c o : Nat} (W : PxS w0 w A C X er bd s Sd) (hI : ShI Sd s N) (ho : s.x.owned = 255) (G : PxGo c o X) (hc : c ≤ 1000) (ho2 : o ≤ 999) (hok : OkT X.h X.wt) (n : Nm) (e : Int) :
 CT 142 #[pB C.b, .agg n.cells, .int .i64 e] w fun en w' => en = .returned (.tuple #[]) ∧ PxS w0 w' A C (X.end_ C.self s.h n e) er bd s Sd := by
 obtain ⟨da, dc, lo, hi, cs, es', E, D, es, hE, hQ, hI9, M⟩ := PxS.openL (L := []) W
 have hf := G.few hc o_
 have G1 := G.end0 hok n e
 have hgl : (Vq X.h X.wt n).length ≤ 1000 := by
  have h1 := G.tab
  have h5 := List.length_filter_le (fun q : Lk => !q.name.eqb n) X.wt
  obtain ⟨-, h2, -, h4⟩ := zX (X.h.filter fun q => !q.name.eqb n) (X.wt.filter fun q => !q.name.eqb n) 32
  have h6 := (h4 ((KR hok.wnodup).sublist List.filter_sublist)).length_le_of_subset fun x hx => (h2 x hx).2.1
  grind [Vq]
 obtain ⟨f1, f2, f3, f4, f5, f6⟩ := hf
 replace M : Mem w0 w (D.ents X C er (es ++ stE C.bs bd s da dc lo hi cs (es' ++ (A ++ E)))) := M
 dsimp only [PxD.ents] at M
 refine vg Tryz.func142 rfl 47 rfl rfl ?_
 refine gp [[2]] ?_; intro a S
 refine VA S M rfl rfl rfl #[_] rfl ?_; intro a w1 bPX S M hB
 refine qW_ S M ?_; intro a w2 bN S M hB
 refine nxC (wp_seq (Yo (C := fun W => Blk W bPX #[pB C.b] 103) [10, 14] #[false, false, false, false, false, false, false, false, false, false, false, false, false, false, false] rfl M k_ ?_)); intro w3 M; have hC := M.blk 1 rfl
 refine JT 0 S rfl hC (fun w hC => Jf S k_ rfl (hC.cells 0)) ?_; intro a S
 refine Yf 1 S rfl hC (fun w hW => have M := M.grow hW; qV S M 1) ?_; intro a S
 skip
 refine kcP 2 S hC ?_; intro a S
 refine kcF 3 0 S hC ?_; intro a S
 refine kcF 4 3 S hC ?_; intro a S
 refine Yf 5 S rfl hC (fun w hW => have M := M.grow hW; qV S M 2) ?_; intro a S
 refine Yf 6 S rfl hC (fun w hW => have M := M.grow hW; qL3 S M 0) ?_; intro a S
 refine kcP 7 S hC ?_; intro a S
 refine JT 8 S rfl hC (fun w _ => JW (ps := [(0, .tmp 16), (1, .tmp 17)]) (pl := [(0, 3), (3, 1)]) (z := Kh) (cs := [_, _, _, _]) S k_ rfl (rfl)) ?_; intro a S
 refine VV 9 rfl k_ ?_
 refine JG (ps := [(0, .tmp 18)]) (e := 160) (sz := 4) (zl := Kh) (cs := [_, _, _, _]) S M rfl rfl k_ rfl (rfl) ?_; intro a w4 bZ S M hB
 replace hC := M.blk 2 rfl
 refine nxC ⟨fun _ => hB, hC, ?_⟩
 refine VV 10 rfl k_ ?_
 refine qP_ (e := 160) (sz := 4) (by_ := 32) (zc := Kh) S M 7 rfl rfl rfl (show Rd _ _ _ 4 _ 1 [.int .i64 n.stamp, .int .i64 n.inc, .int .i64 n.try_, .int .i64 e] from M.sliceAt 0 rfl (M.cellsAt (k := 4) 0 rfl rfl) rfl (Nat.le_refl _) (by grind [maxLen])) ?_; intro a w5 vA loA hiA S M
 replace hC := M.blk 3 rfl
 refine nxC ⟨fun h => absurd h d_, hC, ?_⟩
 refine kcP 11 S hC ?_; intro a S
 refine kcF 12 0 S hC ?_; intro a S
 refine kcF 13 3 S hC ?_; intro a S
 refine VV 14 rfl k_ ?_
 obtain ⟨aA, cA, rfl, -, -⟩ := (M.readAll 0 rfl (by grind [maxLen])).form
 refine go [[900,4]] ?_; intro a w6 S M
 replace hC := M.blk 3 rfl
 refine nxC ⟨fun h => absurd h d_, hC, ?_⟩
 refine vS k_ ?_
 replace S := S.keep [0, 1, 2, 3, 4]
 refine Jn ?_
 skip
 replace M := M.drp 1
 replace M := M.od [8, 8, 2, 8, 8, 8, 8, 8, 8]
 obtain ⟨D1, hD1, M1⟩ : ∃ D1 : PxD, PxI D1 { X with ov := X.ov ++ [(n, e)] } es ∧ Mem w0 w6 (.blk bN n.cells 43 :: .blk bPX #[pB C.b] 103 :: D1.ents { X with ov := X.ov ++ [(n, e)] } C er (es ++ stE C.bs bd s da dc lo hi cs (es' ++ (A ++ E)))) := by
  have eo : (X.ov ++ [(n, e)]).length = X.ov.length + 1 := by simp
  refine ⟨{ D with oa := aA, oc := cA, o1 := loA, o2 := hiA, ocs := _ }, ⟨hI9.lv, hI9.ov.more (q := (n, e)) (lv := Jz) (.inl ⟨rfl, rfl⟩), hI9.ml, hI9.el⟩, ?_⟩
  dsimp only [PxD.ents, PxD.cells]
  simp_all
 clear M; have M := M1; clear M1
 dsimp only [PxD.ents, PxD.cells] at M
 refine YI (fun a w' => ∃ (bT : Nat) (va1 va4 oa : Option Addr) (vc1 vc4 oc lo1 hi1 lo4 hi4 lo3 hi3 : Nat), Jk 47 a [(3, p_ bPX), (6, p_ bT), (7, .slice oa (Vq X.h X.wt n).length oc)] ∧ Mem w0 w' (.blk bT #[.slice va1 (X.end0 n e).h.length vc1, .slice va4 (X.end0 n e).wt.length vc4] 30 :: Jd lo1 hi1 110 5 (.slice va1 (X.end0 n e).h.length vc1) (X.end0 n e).h.length (Jg (X.end0 n e).h) :: Jd lo4 hi4 110 5 (.slice va4 (X.end0 n e).wt.length vc4) (X.end0 n e).wt.length (Jg (X.end0 n e).wt) :: Jd lo3 hi3 110 5 (.slice oa (Vq X.h X.wt n).length oc) (Vq X.h X.wt n).length (Jg (Vq X.h X.wt n)) :: .blk bN n.cells 43 :: .blk bPX #[pB C.b] 103 :: .blk C.b (D1.cells { X with ov := X.ov ++ [(n, e)] } C er) 106 :: Jd D1.l1 D1.l2 59 54 (.slice D1.la X.lv.length D1.lc) X.lv.length D1.lcs :: Jd D1.o1 D1.o2 160 4 (.slice D1.oa (X.ov ++ [(n, e)]).length D1.oc) (X.ov ++ [(n, e)]).length D1.ocs :: Jd D1.m1 D1.m2 46 24 (.slice D1.ma X.ml.length D1.mc) X.ml.length D1.mcs :: Jd D1.e1 D1.e2 235 4 (.slice D1.ea X.el.length D1.ec) X.el.length D1.ecs :: (es ++ stE C.bs bd s da dc lo hi cs (es' ++ (A ++ E))))) ?_ ?_
 ·skip
  refine go [[910,12],[911,0,2,1,1,1],[912,4,2,2],[912,5,0,3]] ?_; intro a w7 S M
  refine j3 6 11 rfl rfl k_ ?_ ?_
  ·skip
   refine qD S rfl (GV D1.ha D1.wa D1.hc D1.wc X.h X.wt n _ (M.readAll 3 rfl m_) (M.readAll 4 rfl m_) o_ o_) ?_
   rintro _ w8 hrel
   obtain ⟨va1, va4, oa, vc1, vc4, oc, lo1, hi1, lo4, hi4, lo3, hi3, h', wt', rfl, M1, -, rfl, rfl⟩ := hrel.resolve_right fun h => h.2 hok
   refine ⟨_, rfl, ?_⟩; intro a S; have hK := M1.below; replace M := M.join M1; clear M1
   replace M := M.c_
   refine kH_ hK ?_
   refine gp [[911,7,1,1,1,1]] ?_; intro a S
   refine k1_ 11 ?_
   refine qN S M Zz ?_; intro a w9 bT S M hB
   refine kH_ hB ?_
   refine go [[914,12,0],[911,13,1,1],[2]] ?_; intro a w10 S M
   replace M := (M.drp 7).drp 7
   replace M := M.od [10, 10, 10, 10, 10, 10, 10, 10, 10, 10, 10]
   exact ⟨bT, va1, va4, oa, vc1, vc4, oc, lo1, hi1, lo4, hi4, lo3, hi3, S.sub _ rfl, M⟩
  ·skip
   refine qN S M Zz ?_; intro a w11 bT S M hB
   refine kH_ hB ?_
   refine k1_ 6 ?_
   refine qD S rfl (GV D1.ha D1.wa D1.hc D1.wc X.h X.wt n _ (M.readAll 4 rfl m_) (M.readAll 5 rfl m_) o_ o_) ?_
   rintro _ w12 hrel
   obtain ⟨va1, va4, oa, vc1, vc4, oc, lo1, hi1, lo4, hi4, lo3, hi3, h', wt', rfl, M1, -, rfl, rfl⟩ := hrel.resolve_right fun h => h.2 hok
   refine ⟨_, rfl, ?_⟩; intro a S; have hK := M1.below; replace M := M.join M1; clear M1
   replace M := M.c_
   refine kH_ hK ?_
   refine go [[911,7,1,1,1,1],[914,12,3],[911,13,1,1],[2]] ?_; intro a w13 S M
   replace M := (M.drp 7).drp 7
   replace M := M.od [10, 10, 10, 10, 10, 10, 10, 9, 9, 9, 10]
   exact ⟨bT, va1, va4, oa, vc1, vc4, oc, lo1, hi1, lo4, hi4, lo3, hi3, S.sub _ rfl, M⟩
 intro a wc
 rintro ⟨bT, va1, va4, oa, vc1, vc4, oc, lo1, hi1, lo4, hi4, lo3, hi3, S, M⟩
 dsimp only [PxD.cells] at M
 refine gp [[2,6],[902,0,2]] ?_; intro a S
 refine qY S (jT S rfl) ?_
 refine go [[0,1,1],[900,6],[3]] ?_; intro a w14 S M
 replace M := M.drp 0
 replace M := M.od [9, 9, 9, 9, 5, 5, 9, 9, 9, 9]
 obtain ⟨D2, hD2, M4⟩ : ∃ D2 : PxD, PxI D2 (X.end0 n e) es ∧ Mem w0 w14 (Jd lo3 hi3 110 5 (.slice oa (Vq X.h X.wt n).length oc) (Vq X.h X.wt n).length (Jg (Vq X.h X.wt n)) :: .blk bN n.cells 43 :: .blk bPX #[pB C.b] 103 :: D2.ents (X.end0 n e) C er (es ++ stE C.bs bd s da dc lo hi cs (es' ++ (A ++ E)))) :=
  ⟨{ D1 with ha := va1, hc := vc1, h1 := lo1, h2 := hi1, wa := va4, wc := vc4, w1 := lo4, w2 := hi4 }, ⟨hD1.lv, hD1.ov, hD1.ml, hD1.el⟩, M⟩
 clear M; have M := M4; clear M4
 refine gp [[1,3,1]] ?_; intro a S
 refine qD S rfl (Jal C.b oa _ oc _) ?_
 rintro _ w15 ⟨bl, bx, rfl, M1⟩; refine rv_ ?_; intro a S; replace M := M.join M1; clear M1
 replace M := M.c_
 refine nxC (wp_block (JcX (encs := Jhd) (xs := grK C.self s.h (Vq X.h X.wt n) (X.end0 n e)) S M rfl (Ji Tryz.func292 d_ rfl) (Em C er bl bx oa oc (Vq X.h X.wt n) (X.end0 n e) s.h (fun pre t e9 => ⟨(G1.ons e9).sort, (G1.ons e9).few hc o_⟩)) (fun _ => rfl) k_ (fun pre Hs => EndH (.blk bl #[.slice oa (Vq X.h X.wt n).length oc] 28 :: .blk bx #[pB C.b] 103 :: Jd lo3 hi3 110 5 (.slice oa (Vq X.h X.wt n).length oc) (Vq X.h X.wt n).length (Jg (Vq X.h X.wt n)) :: [.blk bN n.cells 43, .blk bPX #[pB C.b] 103]) A C ((X.end0 n e).ons C.self s.h pre) er bd s Sd Hs) (fun _ _ _ => False) (⟨da, dc, lo, hi, cs, es', E, D2, es, hE, hQ, hD2, rfl⟩) (fun pre Hs hI => hI.gr m_) ?_ ?_ ?_))
 ·intro lY pre x tX Hs wr TT a hx hI M S
  simp only [ZF] at S
  have hI1 := hI
  obtain ⟨da, dc, lo, hi, cs, es', E, D, es, hE, hQ, hI9, rfl⟩ := hI
  replace M := M.c_
  obtain ⟨g9, hg9, hp9⟩ := Ui hx
  obtain ⟨q9, hq9, hn9, ht9, hb9⟩ := Xa hp9
  have G9 := G1.ons hx
  have hm9 := List.mem_of_getElem? hq9
  obtain ⟨b9, hb1⟩ := Int.eq_ofNat_of_zero_le (G9.ex q9 hm9 ht9).1
  have hb2 := (G9.ex q9 hm9 ht9).2
  refine Jq k_ (fun _ _ h => h) ?_
  refine gp [[0,1],[2]] ?_; intro a S
  refine ⟨_ :: _ :: _ :: _ :: _ :: (D.ents ((X.end0 n e).ons C.self s.h pre) C er (es ++ stE C.bs bd s da dc lo hi cs (es' ++ (A ++ E)))), M, ?_⟩; intro wb TT M; replace M := M.c_
  refine wpIn_block ?_
  refine Jq k_ (fun _ _ h => h) ?_
  refine gp [[0,5,1]] ?_; intro a S
  refine qD S rfl (JaL (hI1.open (T := TT) M) hI ho (G9.few hc o_) x q9 hq9 b9 hb1 o_ (G9.wr q9 hm9)) ?_
  rintro _ w16 ⟨rfl, W1⟩; refine rv_ ?_; intro a S
  refine wpList_nil (Jy ?_)
  obtain ⟨Hs9, hE9, M9⟩ := EndH.close W1
  exact ⟨Hs9, M9, by rw [Px.ons_snoc]; unfold Px.onAt; rw [hq9]; exact hE9⟩
 ·intro D1 wd Hs a hI M S
  refine Jy (JeG S M 0 rfl ?_); intro a wM S M
  replace M := M.e_
  refine Jb8 ?_
  refine JD S rfl ?_
  refine ⟨rfl, (EndH.open (T := []) hI (by rw [List.append_nil]; exact M)).less ?_⟩
  rw [List.append_nil]; exact List.sublist_append_right _ _
 intro D1 wd Hs a cX pre x tX hx hX M S
 exact hX.elim
end
theorem SortL.erase {l : List Lr} (h : SortL l) (k : Nat) : SortL (l.eraseIdx k) := by
 grind [SortL]
def Px.less (X : Px) (k : Nat) : Px := { X with lv := X.lv.eraseIdx k }
theorem PxGo.less {c o : Nat} {X : Px} (H : PxGo c o X) (k : Nat) : PxGo c o (X.less k) := by
 have h1 : unL (X.lv.eraseIdx k) ≤ unL X.lv := (List.eraseIdx_sublist X.lv k).countP_le
 have h2 := H.ml
 exact ⟨H.sort.erase k, Nat.le_trans (List.eraseIdx_sublist ..).length_le H.lv, by show X.ml.length + unL (X.lv.eraseIdx k) ≤ c; omega, H.el, H.ov, H.tab, fun q hq => H.wr q (List.mem_of_mem_eraseIdx hq), fun q hq => H.ex q (List.mem_of_mem_eraseIdx hq), fun q hq => H.zs q (List.mem_of_mem_eraseIdx hq)⟩
section
variable {w0 w : World} {A : List Ent} {C : PxC} {X : Px} {er : Int} {bd : Nat} {s : Sh} {Sd : DS}
theorem PxS.leave (W : PxS w0 w A C X er bd s Sd) (hf : X.few) (k : Nat) (hk : k < X.lv.length) : CT 140 #[pB C.b, .int .i64 (k : Int)] w fun e w' => e = .returned (.tuple #[]) ∧ PxS w0 w' A C (X.less k) er bd s Sd :=
 W.call fun _ W => JbJ W hf k hk
theorem YN {N : Int} {c o : Nat} (W : PxS w0 w A C X er bd s Sd) (hI : ShI Sd s N) (ho : s.x.owned = 255) (G : PxGo c o X) (hc : c ≤ 1000) (ho2 : o ≤ 999) (hok : OkT X.h X.wt) (k : Nat) (q : Lr) (hq : X.lv[k]? = some q) (e : Int) :
 CT 135 #[pB C.b, .int .i64 (k : Int), .int .i64 e] w fun en w' => en = .returned (.tuple #[]) ∧ PxS w0 w' A C ((X.less k).end_ C.self s.h q.1.name e) er bd s Sd := by
 obtain ⟨da, dc, lo, hi, cs, es', E, D, es, hE, hQ, hI9, M⟩ := PxS.openL (L := []) W
 have hf := G.few hc o_
 have hl := hf.lv
 have hk := (List.getElem?_eq_some_iff.1 hq).1
 obtain ⟨lv, hrow, hws⟩ := hI9.lv.at hq
 replace hrow : (D.lcs.drop (k * 54)).take 54 = q.1.cellsL lv := hrow
 replace M : Mem w0 w (D.ents X C er (es ++ stE C.bs bd s da dc lo hi cs (es' ++ (A ++ E)))) := M
 dsimp only [PxD.ents] at M
 refine qI Tryz.func135 23 ?_
 refine gp [[2,1,1,1,3,1,1]] ?_; intro a S
 refine qY S (qX 59 54 S (M.readRow 3 rfl (by grind [maxLen]))) ?_; intro a S
 replace S := S.n_
 refine qG [1] S ?_; intro a S
 refine qY S (Ja S k_ rfl rfl (((M.readRow 3 rfl (by grind [maxLen])).at_.row (i := k) hrow rfl).part (i := 0) (k := 3) rfl)) ?_; intro a S
 refine qN S M Kg ?_; intro a w1 bN S M hB
 refine go [[900,0],[4,1,1]] ?_; intro a w2 S M
 refine qD S rfl ((PxS.closeL (L := [.blk bN q.1.name.cells 43]) hE hQ hI9 M).leave hf k hk) ?_
 rintro _ w3 ⟨rfl, W1⟩; refine rv_ ?_; intro a S
 obtain ⟨da, dc, lo, hi, cs, es', E, D, es, hE, hQ, hI9, M⟩ := PxS.openL (L := [_]) W1
 refine gp [[3,1],[902,0,3],[0,1]] ?_; intro a S
 refine qD S rfl (Qn W1 hI ho (G.less k) hc ho2 hok q.1.name e) ?_
 rintro _ w4 ⟨rfl, W2⟩; refine rv_ ?_; intro a S
 replace S := S.keep [0, 1, 2, 6]
 refine wpList_nil (JD S rfl ?_)
 exact ⟨rfl, W2.less (.cons _ (.refl _))⟩
end
theorem ZSl.ws {ea : Option Addr} {ec lo hi : Nat} {w : World} (h : ZSl ea ec) : Ws lo hi w (.slice ea 0 ec) [] := by
 rcases h with ⟨rfl, rfl⟩ | ⟨h1, h2⟩
 ·exact Rd.nil _ _ _ _
 ·cases ea with
  | none => grind
  | some ad => exact ⟨rfl, Nat.zero_le _, .inr ⟨ad, ec, rfl, Nat.zero_le _, h2, fun j hj => (by cases hj), fun h => absurd h (by simp)⟩⟩
theorem Rd.zsl {lo hi : Nat} {w : World} {ea : Option Addr} {ec : Nat} (h : Rd lo hi w 9 (.slice ea 0 ec) 0 []) : ZSl ea ec := by
 obtain ⟨-, -, ⟨h1, -⟩ | ⟨ad, cp, h1, -, h2, -⟩⟩ := h
 ·injection h1 with e1 _ e3; exact .inl ⟨e1, e3⟩
 ·injection h1 with e1 _ e3; subst e1 e3; exact .inr ⟨by simp, h2⟩
def J5 (q : Lr) (m : Msg) (ea : Option Addr) (ec : Nat) : Lr := (⟨q.1.name, m.n, false, q.1.ans, m, ea, ec⟩, q.2)
abbrev YW (q : Lr) : Lk := ⟨q.1.name, q.1.exec.block, q.1.exec.op != 0⟩
def Px.setT (X : Px) (k : Nat) (q : Lr) (h wt : List Lk) : Px := { X with lv := X.lv.set k q, h := h, wt := wt }
noncomputable def Px.nextA (X : Px) (self : Int) (h : List V8) (k : Nat) (q : Lr) (act : Int) : Px :=
 if act = 0 then X.on self h k q
 else if act = 2 then ((X.ans self k q 120 zV8).less k).end_ self h q.1.name 120
 else X
theorem Ja5 {h wt h' wt' : List Lk} {x : Lk} {act : Int} (hr : ZZ h wt x h' wt' act) (ha : act = 2) : h' = h ∧ wt' = wt := by
 rcases hr with ⟨-, h1, h2⟩ | ⟨-, ⟨-, h1, -⟩ | ⟨-, -, -, h1, h2⟩ | ⟨-, -, h1, -⟩⟩
 ·grind
 ·omega
 ·grind
 ·omega
theorem Ja6 {h wt h' wt' : List Lk} {x : Lk} {act : Int} (hr : ZZ h wt x h' wt' act) : h'.length + wt'.length ≤ h.length + wt.length + 1 := by
 rcases hr with ⟨-, rfl, rfl⟩ | ⟨-, ⟨-, -, rfl, ⟨k, q, -, -, rfl⟩ | ⟨-, rfl⟩⟩ | ⟨-, -, -, rfl, rfl⟩ | ⟨-, -, -, rfl, to, ht, rfl, -⟩⟩
 ·omega
 ·grind
 ·grind
 ·omega
 grind [vt]
theorem PxGo.setT {c o : Nat} {X : Px} (H : PxGo c o X) {k : Nat} {q q' : Lr} (hq : X.lv[k]? = some q) (hn : q'.1.name = q.1.name) (hw : q'.2 = q.2) (hb : 0 ≤ q'.1.exec.block ∧ q'.1.exec.block < 32) (hz : ZSl q'.1.ea q'.1.ec) {h wt : List Lk} (hl : h.length + wt.length ≤ o + 1) : PxGo (c + 1) (o + 1) (X.setT k q' h wt) := by
 have hm := List.mem_of_getElem? hq
 obtain ⟨h3, h4⟩ := List.getElem?_eq_some_iff.1 hq
 have h2 := H.ml
 have h5 := H.ov
 have h6 : unL (X.lv.set k q') ≤ unL X.lv + 1 := by
  grind [unL]
 refine ⟨H.sort.set hq hn, by show (X.lv.set _ _).length ≤ 64; rw [List.length_set]; exact H.lv, by show X.ml.length + unL (X.lv.set _ _) ≤ c + 1; omega, H.el, by show X.ov.length ≤ _; omega, hl, fun p hp => ?_, fun p hp hn => ?_, fun p hp => ?_⟩
 ·rcases List.mem_or_eq_of_mem_set hp with h3 | rfl
  ·exact H.wr p h3
  ·rw [hw]; exact H.wr q hm
 ·rcases List.mem_or_eq_of_mem_set hp with h3 | rfl
  ·exact H.ex p h3 hn
  omega
 ·rcases List.mem_or_eq_of_mem_set hp with h3 | rfl
  ·exact H.zs p h3
  omega
theorem PxGo.ans {c o : Nat} {X : Px} (H : PxGo c o X) (self : Int) {k : Nat} {q : Lr} (hq : X.lv[k]? = some q) (ht : q.1.told = false) (e : Int) (v : V8) : PxGo c o (X.ans self k q e v) := by
 have hm := List.mem_of_getElem? hq
 have h1 := JaE (q' := zF self q e v) hq ht rfl
 have h2 := H.ml
 refine ⟨H.sort.set hq rfl, by show (X.lv.set _ _).length ≤ 64; rw [List.length_set]; exact H.lv, ?_, H.el, H.ov, H.tab, fun p hp => ?_, fun p hp hn => ?_, fun p hp => ?_⟩
 ·show (X.ml ++ [_]).length + unL (X.lv.set _ _) ≤ c
  grind
 ·rcases List.mem_or_eq_of_mem_set hp with h3 | rfl
  ·exact H.wr p h3
  ·exact H.wr q hm
 ·rcases List.mem_or_eq_of_mem_set hp with h3 | rfl
  ·exact H.ex p h3 hn
  ·cases hn
 ·rcases List.mem_or_eq_of_mem_set hp with h3 | rfl
  ·exact H.zs p h3
  ·exact .inl ⟨rfl, rfl⟩
section
variable {w0 w : World} {A : List Ent} {C : PxC} {X : Px} {er : Int} {bd : Nat} {s : Sh} {Sd : DS}
set_option maxHeartbeats 2000000 in
theorem Xb {N : Int} {c o : Nat} (W : PxS w0 w A C X er bd s Sd) (hI : ShI Sd s N) (ho : s.x.owned = 255) (G : PxGo c o X) (hc : c ≤ 990) (ho2 : o ≤ 990) (hok : OkT X.h X.wt) (k : Nat) (q : Lr) (hq : X.lv[k]? = some q)
 (hvn : C.vn = 0) (hvz : ZSl C.va C.vc) (b : Nat) (hb : C.m.block = (b : Int)) (hb32 : b < 32) (hmy : (YW (J5 q C.m none 0)).may = true) :
 CT 136 #[pB C.b, .int .i64 (k : Int)] w fun en w' => en = .returned (.tuple #[]) ∧ ∃ ea ec h' wt' act, ZSl ea ec ∧ ZZ X.h X.wt (YW (J5 q C.m none 0)) h' wt' act ∧ PxS w0 w' A C ((X.setT k (J5 q C.m ea ec) h' wt').nextA C.self s.h k (J5 q C.m ea ec) act) er bd s Sd := by
 obtain ⟨da, dc, lo, hi, cs, es', E, D, es, hE, hQ, hI9, M⟩ := PxS.openL (L := []) W
 have hf := G.few o_ o_
 have hl := hf.lv
 have hcl : D.lcs.length = X.lv.length * 54 := hI9.lv.1
 have hk := (List.getElem?_eq_some_iff.1 hq).1
 obtain ⟨lv, hrow, hws⟩ := hI9.lv.at hq
 replace hrow : (D.lcs.drop (k * 54)).take 54 = q.1.cellsL lv := hrow
 replace M : Mem w0 w (D.ents X C er (es ++ stE C.bs bd s da dc lo hi cs (es' ++ (A ++ E)))) := M
 dsimp only [PxD.ents] at M
 refine qI Tryz.func136 90 ?_
 refine gp [[2,1,1,1,3,1,1]] ?_; intro a S
 refine qY S (qX 59 54 S (M.readRow 3 rfl (by grind [maxLen]))) ?_; intro a S
 replace S := S.n_
 refine go [[0,1],[3],[910,15,18,21],[911,0,1,1,1,1,1,7,9,1,1,1,7]] ?_; intro a w1 S M
 refine kR 11 S rfl M (fun w M => Ja (cs := [_, _, _, _, _, _, _, _, _, _, _, _, _, _, _, _, _, _, _, _, _, _, _, _]) S k_ rfl rfl (M.cellsAt (k := 24) 0 rfl rfl)) ?_; intro a S
 refine k1_ 12 ?_
 rw [hvn] at S
 refine qD S rfl (JeY C.m C.va C.vc _ hvz.ws) ?_
 rintro _ w2 ⟨ea, ec, lo1, hi1, rfl, M1⟩; have hK := M1.below; have hz : ZSl ea ec := (M1.readRow 0 rfl (Nat.zero_le _)).zsl; clear M1; replace M := M.grow hK
 refine gp [[2]] ?_; intro a S
 refine ⟨fun _ => hK, ?_⟩
 refine gp [[911,13,1,4]] ?_; intro a S
 refine k1_ 15 ?_
 refine Vh (v := .slice D.la X.lv.length D.lc) (sz := 54) (m := X.lv.length) (j := k * 54 + 3) (us := [.int .i64 C.m.n]) S M 3 rfl k_ rfl rfl (by rfl) rfl rfl rfl rfl rfl o_ hcl (by grind) ?_; intro wz l1 h1 M
 replace M := M.e_
 replace M := M.od [3, 3, 3]
 obtain ⟨hB1, hr1⟩ := hI9.lv.put (q' := ({ q.1 with n := C.m.n }, q.2)) (us := [.int .i64 C.m.n]) (j := 3) (z := 54) rfl hk hrow hws (by grind) (Jj2 _ _ _)
 have hc1 : (Jt D.lcs (k * 54 + 3) [.int .i64 C.m.n]).length = X.lv.length * 54 := by grind [Vu]
 refine kn_ ?_
 refine gp [[911,16,1,5]] ?_; intro a S
 refine k1_ 18 ?_
 refine Vh (v := .slice D.la X.lv.length D.lc) (sz := 54) (m := X.lv.length) (j := k * 54 + 4) (us := [.bool false]) S M 3 rfl k_ rfl rfl (by rfl) rfl rfl rfl rfl rfl o_ hc1 (by grind) ?_; intro wz l2 h2 M
 replace M := M.e_
 replace M := M.od [3, 3, 3]
 obtain ⟨hB2, hr2⟩ := hB1.put (q' := ({ q.1 with n := C.m.n, told := false }, q.2)) (us := [.bool false]) (j := 4) (z := 54) rfl (by grind) hr1 hws (by grind) (JaR _ _ _)
 refine kn_ ?_
 refine gp [[911,19,1,30]] ?_; intro a S
 refine k1_ 21 ?_
 refine Vh (v := .slice D.la X.lv.length D.lc) (sz := 54) (m := X.lv.length) (j := k * 54 + 29) (us := (C.m.cells (.slice ea 0 ec)).toList) S M 3 rfl k_ rfl rfl (by rfl) rfl rfl rfl rfl rfl o_ (by grind [Vu]) (by rw [Vu, hc1]; show k * 54 + 29 + 24 ≤ _; omega) ?_; intro wz l3 h3 M
 replace M := M.e_
 replace M := M.od [3, 3, 3]
 obtain ⟨hB3, hr3⟩ := hB2.put (q' := J5 q C.m ea ec) (us := (C.m.cells (.slice ea 0 ec)).toList) (j := 29) (z := 54) rfl (by rw [List.length_set, List.length_set]; exact hk) hr2 hws (by show 29 + 24 ≤ 54; omega) (JaS { q.1 with n := C.m.n, told := false } _ ea ec _)
 rw [List.set_set, List.set_set] at hB3
 refine kn_ ?_
 refine gp [[4]] ?_; intro a S
 obtain ⟨X1, hX1⟩ : ∃ X1, X1 = ({ X with lv := X.lv.set k (J5 q C.m ea ec) } : Px) := ⟨_, rfl⟩
 obtain ⟨D1, hla, hI1, M1⟩ : ∃ D1 : PxD, D1.la = D.la ∧ PxI D1 X1 es ∧ Mem w0 wz (D1.ents X1 C er (es ++ stE C.bs bd s da dc lo hi cs (es' ++ (A ++ E)))) := by
  rw [hX1]
  refine ⟨{ D with l1 := l3, l2 := h3, lcs := _ }, rfl, hI9.withL hB3 D.la D.lc l3 h3, ?_⟩
  dsimp only [PxD.ents, PxD.cells]; rw [List.length_set]; exact M
 have ead : adr (.slice D.la X.lv.length D.lc) = adr (.slice D1.la X1.lv.length D1.lc) := by rw [hla]; cases D.la <;> rfl
 rw [ead] at S
 have hq1 : X1.lv[k]? = some (J5 q C.m ea ec) := by rw [hX1]; exact List.getElem?_set_self hk
 have hl1 : X1.lv.length ≤ 1000 := by rw [hX1]; show (X.lv.set _ _).length ≤ 1000; rw [List.length_set]; exact hl
 have hh1 : X1.h = X.h := by rw [hX1]
 have hw1 : X1.wt = X.wt := by rw [hX1]
 clear M hB1 hB2 hB3 hr1 hr2 hr3 hrow hcl hws hI9 hc1
 have M := M1
 clear M1
 obtain ⟨lv, hrow, hws⟩ := hI1.lv.at hq1
 replace hrow : (D1.lcs.drop (k * 54)).take 54 = (J5 q C.m ea ec).1.cellsL lv := hrow
 have hst : shE C.bs bd s (.slice da s.ps.length dc) ∈ D1.ents X1 C er (es ++ stE C.bs bd s da dc lo hi cs (es' ++ (A ++ E))) := by simp
 dsimp only [PxD.ents] at M hst
 dsimp only [PxD.cells] at M
 have f5 := hf.h
 have f6 := hf.wt
 rw [← hh1] at f5
 rw [← hw1] at f6
 refine go [[910],[911,0,1,1,5,1,1,1,7,11,1]] ?_; intro a w3 S M
 rw [hb] at S
 refine Jj 9 S rfl (fun w => QB S rfl rfl o_) ?_; intro a S
 refine k1_ 10 ?_
 rw [show (b : Int) / 4 = ((b / 4 : Nat) : Int) by omega] at S
 refine qK S rfl (Q1 (b / 4) _ (M.ok _ hst) ho o_) M ?_; intro a w4 S hK M
 refine kH_ hK ?_
 refine Jj 11 S rfl (fun w => zO S rfl) ?_
 refine gp [[2],[941,45],[3]] ?_; intro a S
 refine YI (fun a w' => ∃ (bT : Nat) (va1 va4 : Option Addr) (vc1 vc4 lo1 hi1 lo4 hi4 : Nat) (h' wt' : List Lk) (act : Int), ZZ X1.h X1.wt (YW (J5 q C.m none 0)) h' wt' act ∧ Jk 90 a [(0, pB C.b), (1, .int .i64 (k : Int)), (5, p_ bT), (6, .int .i8 act), (7, .int .i64 0)] ∧ Mem w0 w' (.blk bT #[.slice va1 h'.length vc1, .slice va4 wt'.length vc4] 30 :: Jd lo1 hi1 110 5 (.slice va1 h'.length vc1) h'.length (Jg h') :: Jd lo4 hi4 110 5 (.slice va4 wt'.length vc4) wt'.length (Jg wt') :: .blk C.b (D1.cells X1 C er) 106 :: Jd D1.l1 D1.l2 59 54 (.slice D1.la X1.lv.length D1.lc) X1.lv.length D1.lcs :: Jd D1.o1 D1.o2 160 4 (.slice D1.oa X1.ov.length D1.oc) X1.ov.length D1.ocs :: Jd D1.m1 D1.m2 46 24 (.slice D1.ma X1.ml.length D1.mc) X1.ml.length D1.mcs :: Jd D1.e1 D1.e2 235 4 (.slice D1.ea X1.el.length D1.ec) X1.el.length D1.ecs :: (es ++ stE C.bs bd s da dc lo hi cs (es' ++ (A ++ E))))) ?_ ?_
 ·skip
  refine go [[910,15],[911,0,1,1,1,1],[912,4,0,2],[911,5,1,1]] ?_; intro a w5 S M
  refine kR 7 S rfl M (fun w M => Ja S k_ rfl rfl (((M.readRow 3 rfl m_).at_.row (i := k) hrow rfl).part (i := 0) (k := 54) rfl)) ?_; intro a S
  refine j3 8 14 rfl rfl k_ ?_ ?_
  ·skip
   refine qK S rfl (zQ (J5 q C.m ea ec).1 lv _) M ?_; intro a w6 S hK M
   refine kH_ hK ?_
   refine j3 9 14 rfl rfl k_ ?_ ?_
   ·skip
    refine qD S rfl (Wz D1.ha D1.wa D1.hc D1.wc X1.h X1.wt (YW (J5 q C.m none 0)) _ (M.readAll 1 rfl m_) (M.readAll 2 rfl m_) f5 f6) ?_
    rintro _ w7 ⟨er2, act, _, h', wt', rfl, ⟨va1, va4, vc1, vc4, lo1, hi1, lo4, hi4, rfl, M1⟩, hr0⟩; refine rv_ ?_; intro a S; have hK := M1.below; replace M := M.join M1; clear M1
    obtain ⟨rfl, hr⟩ : er2 = 0 ∧ ZZ X1.h X1.wt (YW (J5 q C.m none 0)) h' wt' act := by
     rcases hr0 with ⟨h1, -, h2⟩ | ⟨-, h1, -⟩
     ·exact ⟨h1, h2⟩
     ·exact absurd ⟨by rw [hh1, hw1]; exact hok, hmy⟩ h1
    replace M := M.c_
    refine kH_ hK ?_
    refine gp [[911,10,1,1,1,1]] ?_; intro a S
    refine k1_ 14 ?_
    refine qN S M Zz ?_; intro a w8 bT S M hB
    refine kH_ hB ?_
    refine go [[914,15,0],[911,16,1,1],[2]] ?_; intro a w9 S M
    replace M := (M.drp 4).drp 4
    replace M := M.od [7, 7, 7, 7, 7, 7, 7, 7]
    exact ⟨bT, va1, va4, vc1, vc4, lo1, hi1, lo4, hi4, h', wt', act, hr, S.sub _ rfl, M⟩
   ·skip
    refine qN S M Zz ?_; intro a w10 bT S M hB
    refine kH_ hB ?_
    refine k1_ 9 ?_
    refine qD S rfl (Wz D1.ha D1.wa D1.hc D1.wc X1.h X1.wt (YW (J5 q C.m none 0)) _ (M.readAll 2 rfl m_) (M.readAll 3 rfl m_) f5 f6) ?_
    rintro _ w11 ⟨er2, act, _, h', wt', rfl, ⟨va1, va4, vc1, vc4, lo1, hi1, lo4, hi4, rfl, M1⟩, hr0⟩; refine rv_ ?_; intro a S; have hK := M1.below; replace M := M.join M1; clear M1
    obtain ⟨rfl, hr⟩ : er2 = 0 ∧ ZZ X1.h X1.wt (YW (J5 q C.m none 0)) h' wt' act := by
     rcases hr0 with ⟨h1, -, h2⟩ | ⟨-, h1, -⟩
     ·exact ⟨h1, h2⟩
     ·exact absurd ⟨by rw [hh1, hw1]; exact hok, hmy⟩ h1
    replace M := M.c_
    refine kH_ hK ?_
    refine go [[911,10,1,1,1,1],[914,15,2],[911,16,1,1],[2]] ?_; intro a w12 S M
    replace M := (M.drp 4).drp 4
    replace M := M.od [7, 7, 7, 7, 7, 6, 6, 7]
    exact ⟨bT, va1, va4, vc1, vc4, lo1, hi1, lo4, hi4, h', wt', act, hr, S.sub _ rfl, M⟩
  ·skip
   refine qN S M Zz ?_; intro a w13 bT S M hB
   refine kH_ hB ?_
   refine k1_ 8 ?_
   refine qK S rfl (zQ (J5 q C.m ea ec).1 lv _) M ?_; intro a w14 S hK M
   refine kH_ hK ?_
   refine k1_ 9 ?_
   refine qD S rfl (Wz D1.ha D1.wa D1.hc D1.wc X1.h X1.wt (YW (J5 q C.m none 0)) _ (M.readAll 2 rfl m_) (M.readAll 3 rfl m_) f5 f6) ?_
   rintro _ w15 ⟨er2, act, _, h', wt', rfl, ⟨va1, va4, vc1, vc4, lo1, hi1, lo4, hi4, rfl, M1⟩, hr0⟩; refine rv_ ?_; intro a S; have hK := M1.below; replace M := M.join M1; clear M1
   obtain ⟨rfl, hr⟩ : er2 = 0 ∧ ZZ X1.h X1.wt (YW (J5 q C.m none 0)) h' wt' act := by
    rcases hr0 with ⟨h1, -, h2⟩ | ⟨-, h1, -⟩
    ·exact ⟨h1, h2⟩
    ·exact absurd ⟨by rw [hh1, hw1]; exact hok, hmy⟩ h1
   replace M := M.c_
   refine kH_ hK ?_
   refine go [[911,10,1,1,1,1],[914,15,2],[911,16,1,1],[2]] ?_; intro a w16 S M
   replace M := (M.drp 4).drp 4
   replace M := M.od [7, 7, 7, 7, 7, 6, 6, 7]
   exact ⟨bT, va1, va4, vc1, vc4, lo1, hi1, lo4, hi4, h', wt', act, hr, S.sub _ rfl, M⟩
 intro a wc
 rintro ⟨bT, va1, va4, vc1, vc4, lo1, hi1, lo4, hi4, h', wt', act, hr, S, M⟩
 dsimp only [PxD.cells] at M
 refine go [[3,1,1],[2],[941,65],[5,1],[902,0,2],[0,1,1,1],[900,3],[3]] ?_; intro a w17 S M
 replace M := M.drp 0
 replace M := M.od [6, 6, 6, 6, 5, 5, 6]
 have W2 : PxS w0 w17 A C (X.setT k (J5 q C.m ea ec) h' wt') er bd s Sd := by
  subst hX1
  exact PxS.closeL (L := []) (da := da) (dc := dc) (lo := lo) (hi := hi) hE hQ (D := { D1 with ha := va1, hc := vc1, h1 := lo1, h2 := hi1, wa := va4, wc := vc4, w1 := lo4, w2 := hi4 }) (X := X.setT k (J5 q C.m ea ec) h' wt') ⟨hI1.lv, hI1.ov, hI1.ml, hI1.el⟩ M
 have G2 : PxGo (c + 1) (o + 1) (X.setT k (J5 q C.m ea ec) h' wt') := G.setT (q' := J5 q C.m ea ec) hq rfl rfl ⟨by show 0 ≤ C.m.block; omega, by show C.m.block < 32; omega⟩ hz (by rw [hh1, hw1] at hr; have := Ja6 hr; have := G.tab; omega)
 have hq2 : (X.setT k (J5 q C.m ea ec) h' wt').lv[k]? = some (J5 q C.m ea ec) := List.getElem?_set_self hk
 rw [hh1, hw1] at hr
 refine gq [[1,1],[5,1,1],[2],[940,76]] ?_ ?_
 ·intro a h76 S
  refine gp [[2,1,1]] ?_; intro a S
  refine qD S rfl (JaL W2 hI ho (G2.few o_ o_) k (J5 q C.m ea ec) hq2 b hb hb32 (G.wr q (List.mem_of_getElem? hq))) ?_
  rintro _ w18 ⟨rfl, W3⟩
  refine gp [[2]] ?_; intro a S
  refine JD S rfl ?_
  refine ⟨rfl, ea, ec, h', wt', act, hz, hr, ?_⟩
  unfold Px.nextA
  (rw [if_pos o_]; exact W3)
 intro a h76 S
 refine gq [[3,1,1],[2],[943,81]] ?_ ?_
 ·intro a h81 S
  refine cF S (wp_skip (Jy (JD S rfl ?_)))
  refine ⟨rfl, ea, ec, h', wt', act, hz, hr, ?_⟩
  unfold Px.nextA
  (rw [if_neg o_, if_neg o_]; exact W2)
 intro a h81 S
 refine gp [[3,1,1]] ?_; intro a S
 refine qY S (V5 (ps := []) (sz := 1) (z := Ki) (cs := [_, _, _, _, _, _, _, _]) S k_ rfl rfl) ?_; intro a S
 refine qD S rfl (W2.answer (G2.few o_ o_) k (J5 q C.m ea ec) hq2 120 zV8) ?_
 rintro _ w19 ⟨rfl, W3⟩
 refine gp [[3,1,1]] ?_; intro a S
 refine qD S rfl (YN W3 hI ho (G2.ans C.self hq2 rfl 120 zV8) o_ o_ (by show OkT h' wt'; obtain ⟨rfl, rfl⟩ := Ja5 hr o_; exact hok) k (zF C.self (J5 q C.m ea ec) 120 zV8) (List.getElem?_set_self (List.getElem?_eq_some_iff.1 hq2).1) 120) ?_
 rintro _ w20 ⟨rfl, W4⟩; refine rv_ ?_; intro a S
 replace S := S.keep [0, 1, 5, 6, 7, 65, 75, 76, 81]
 refine wpList_nil (Jy (JD S rfl ?_))
 refine ⟨rfl, ea, ec, h', wt', act, hz, hr, ?_⟩
 unfold Px.nextA
 (rw [if_neg o_, if_pos o_]; exact W4)
end
theorem BkG.ins {α : Type} {S : Shp α} {cs : List Value} {l : List α} {es : List Ent} {k z : Nat} {q : α} {lv : Value} (h : BkG S cs l es) (hz : S.sz = z) (hk : k ≤ l.length) (hw : WrAt lv (S.wr q) es) : BkG S (cs.take (k * z) ++ (S.f q lv ++ cs.drop (k * z))) (l.take k ++ q :: l.drop k) es := by
 subst hz
 have h0 := h.1
 have hle : k * S.sz ≤ cs.length := by rw [h0]; exact Nat.mul_le_mul_right _ hk
 have hlt : (cs.take (k * S.sz)).length = k * S.sz := by grind
 have hl1 : (l.take k).length = k := by grind
 refine ⟨?_, ?_, fun i x hx => ?_⟩
 ·simp only [List.length_append, List.length_cons, hlt, hl1, S.len, List.length_drop, h0]
  grind [Nat.add_mul]
 ·rw [JJ, JJ, (YR h.2.1 _).1, (YR h.2.1 _).2, S.one q lv hw.oneB]; rfl
 ·rcases Nat.lt_trichotomy i k with h1 | h1 | h1
  ·rw [List.getElem?_append_left o_, List.getElem?_take_of_lt h1] at hx
   obtain ⟨lv', h2, h3⟩ := h.2.2 i x hx
   have hh : (i + 1) * S.sz ≤ k * S.sz := Nat.mul_le_mul_right _ h1
   grind [List.drop_take]
  ·subst h1
   rw [List.getElem?_append_right o_, hl1, Nat.sub_self, List.getElem?_cons_zero] at hx
   obtain rfl := Option.some.inj hx
   refine ⟨lv, ?_, hw⟩
   rw [List.drop_append_of_le_length o_, List.drop_of_length_le o_, List.nil_append, List.take_append_of_le_length (by rw [S.len]; omega), ← S.len q lv, List.take_length]
  ·obtain ⟨j, rfl⟩ : ∃ j, i = k + (j + 1) := ⟨i - k - 1, by omega⟩
   rw [List.getElem?_append_right o_, hl1, Nat.add_sub_cancel_left, List.getElem?_cons_succ, List.getElem?_drop] at hx
   obtain ⟨lv', h2, h3⟩ := h.2.2 (k + j) x hx
   refine ⟨lv', ?_, h3⟩
   have e : (k + (j + 1)) * S.sz = k * S.sz + (S.sz + j * S.sz) := by simp only [Nat.add_mul, Nat.one_mul]; omega
   have e1 : (cs.take (k * S.sz) ++ (S.f q lv ++ cs.drop (k * S.sz))).drop ((k + (j + 1)) * S.sz) = cs.drop ((k + j) * S.sz) := by
    rw [e, ← List.drop_drop, List.drop_left' hlt, ← List.drop_drop, List.drop_left' (S.len q lv), List.drop_drop, Nat.add_mul]
   rw [e1, h2]
def zLr (n : Nm) : Lr := (⟨n, 0, false, vX, vX, none, 0⟩, [])
def Px.ins (X : Px) (k : Nat) (n : Nm) : Px := { X with lv := X.lv.take k ++ zLr n :: X.lv.drop k }
theorem Xm {l : List Lr} {n : Nm} {k : Nat} (h : yo l n k false) : k ≤ l.length ∧ (∀ q ∈ l.take k, q.1.name.less n = true) ∧ ∀ q ∈ l.drop k, n.less q.1.name = true := by
 obtain ⟨h0, ⟨h1, -⟩ | ⟨-, h1, h2⟩⟩ := h
 ·cases h1
 grind [List.getElem?_of_mem]
theorem Jh8 {l : List Lr} {n : Nm} {k : Nat} (h : yo l n k false) : ∀ q ∈ l, q.1.name ≠ n := fun q hq e => by
 obtain ⟨-, h1, h2⟩ := Xm h
 grind [List.take_append_drop, Nm.less_irr]
theorem SortL.ins {l : List Lr} {n : Nm} {k : Nat} (h : SortL l) (hF : yo l n k false) : SortL (l.take k ++ zLr n :: l.drop k) := by
 obtain ⟨-, h1, h2⟩ := Xm hF
 have e : l = l.take k ++ l.drop k := (List.take_append_drop k l).symm
 unfold SortL at h ⊢
 rw [e] at h
 simp only [List.map_append, List.map_cons, List.pairwise_append, List.pairwise_cons, List.mem_map, List.mem_cons] at h ⊢
 refine ⟨h.1, ⟨?_, h.2.1⟩, ?_⟩
 ·rintro _ ⟨q, hq, rfl⟩; exact h2 q hq
 ·rintro _ ⟨q, hq, rfl⟩ b (rfl | ⟨p, hp, rfl⟩)
  ·grind
  ·exact h.2.2 _ ⟨q, hq, rfl⟩ _ ⟨p, hp, rfl⟩
theorem PxGo.ins {c o : Nat} {X : Px} (H : PxGo c o X) {k : Nat} {n : Nm} (hF : yo X.lv n k false) (hl : X.lv.length < 64) : PxGo (c + 1) o (X.ins k n) := by
 have hk := hF.1
 have h2 := H.ml
 have hm : ∀ q ∈ X.lv.take k ++ zLr n :: X.lv.drop k, q ∈ X.lv ∨ q = zLr n := fun q hq => by
  grind
 have hun : unL (X.lv.take k ++ zLr n :: X.lv.drop k) = unL X.lv + 1 := by
  grind [unL, List.take_append_drop, zLr]
 refine ⟨H.sort.ins hF, by show (X.lv.take k ++ _ :: X.lv.drop k).length ≤ 64; grind, by show X.ml.length + unL (_ ++ _) ≤ c + 1; omega, H.el, H.ov, H.tab, fun q hq => ?_, fun q hq ht => ?_, fun q hq => ?_⟩
 ·rcases hm q hq with h | rfl
  ·exact H.wr q h
  ·rfl
 ·rcases hm q hq with h | rfl
  ·exact H.ex q h ht
  ·exact ⟨Int.le_refl _, by show (0 : Int) < 32; decide⟩
 ·rcases hm q hq with h | rfl
  ·exact H.zs q h
  ·exact .inl ⟨rfl, rfl⟩
theorem PxGo.say {c o : Nat} {X : Px} (H : PxGo c o X) (self : Int) (m : Msg) : PxGo (c + 1) o (X.say self m) := by
 have h2 := H.ml
 exact ⟨H.sort, H.lv, by show (X.ml ++ [_]).length + unL X.lv ≤ c + 1; grind, H.el, H.ov, H.tab, H.wr, H.ex, H.zs⟩
theorem PxGo.more {c o c' o' : Nat} {X : Px} (H : PxGo c o X) (hc : c ≤ c') (ho : o ≤ o') : PxGo c' o' X :=
 ⟨H.sort, H.lv, Nat.le_trans H.ml hc, H.el, Nat.le_trans H.ov ho, Nat.le_trans H.tab ho, H.wr, H.ex, H.zs⟩
def Px.told (X : Px) (m : Msg) : Px := { X with ml := X.ml ++ [(m, [])] }
def Dg (C : PxC) (h : List V8) (Y : Px) (k : Nat) (q : Lr) (X' : Px) : Prop := ∃ ea ec h' wt' act, ZSl ea ec ∧ ZZ Y.h Y.wt (YW (J5 q C.m none 0)) h' wt' act ∧ X' = (Y.setT k (J5 q C.m ea ec) h' wt').nextA C.self h k (J5 q C.m ea ec) act
abbrev XO (C : PxC) : Msg := Yx 3 C.m.name C.m.n 121 false
def U1 (C : PxC) (h : List V8) (ps : Pl) (X X' : Px) : Prop :=
 (X' = X ∧ ∃ q ∈ X.lv, q.1.name = C.m.name) ∨ (X' = X.say C.self (XO C) ∧ ((j1 X.ov C.m.name).isSome = true ∨ Vg ps C.m.name = true ∨ C.m.n ≠ 1 ∨ 64 ≤ X.lv.length)) ∨ (∃ k, yo X.lv C.m.name k false ∧ X.lv.length < 64 ∧ Vg ps C.m.name = false ∧ Dg C h (X.ins k C.m.name) k (zLr C.m.name) X') ∨
 ∃ k q, X.lv[k]? = some q ∧ q.1.name = C.m.name ∧ ((q.1.told = true ∧ X' = X.told q.1.ans) ∨ X' = ((X.less k).end_ C.self h q.1.name 121).say C.self (XO C) ∨ (q.1.told = true ∧ Dg C h X k q X'))
section
variable {w0 w : World} {A : List Ent} {C : PxC} {X : Px} {er : Int} {bd : Nat} {s : Sh} {Sd : DS}
theorem PxS.gone (W : PxS w0 w A C X er bd s Sd) (hf : X.few) : CT 137 #[pB C.b] w fun e w' => e = .returned (.tuple #[]) ∧ PxS w0 w' A C (X.say C.self (XO C)) er bd s Sd :=
 W.call fun _ W => Jem W hf
theorem PxS.vote (W : PxS w0 w A C X er bd s Sd) (hf : X.few) (y : Bool) : CT 138 #[pB C.b, .bool y] w fun e w' => e = .returned (.tuple #[]) ∧ PxS w0 w' A C (X.say C.self (Yx 5 C.m.name 0 0 y)) er bd s Sd :=
 W.call fun _ W => Jc0 W hf y
set_option maxHeartbeats 1000000 in
theorem JeF {N : Int} {c o : Nat} (W : PxS w0 w A C X er bd s Sd) (hI : ShI Sd s N) (ho : s.x.owned = 255) (G : PxGo c o X) (hc : c ≤ 900) (ho2 : o ≤ 900) (hok : OkT X.h X.wt)
 (hvn : C.vn = 0) (hvz : ZSl C.va C.vc) (b : Nat) (hb : C.m.block = (b : Int)) (hb32 : b < 32) (hmy : (⟨C.m.name, C.m.block, C.m.op != 0⟩ : Lk).may = true) :
 CT 79 #[pB C.b] w fun en w' => en = .returned (.tuple #[]) ∧ ∃ X', U1 C s.h s.ps X X' ∧ PxS w0 w' A C X' er bd s Sd := by
 obtain ⟨da, dc, lo, hi, cs, es', E, D, es, hE, hQ, hI9, M⟩ := PxS.openL (L := []) W
 have hf := G.few o_ o_
 have hl := hf.lv
 replace M : Mem w0 w (D.ents X C er (es ++ stE C.bs bd s da dc lo hi cs (es' ++ (A ++ E)))) := M
 dsimp only [PxD.ents] at M
 refine qI Tryz.func79 127 ?_; intro a S
 refine GL 1000 (fun l m a w' => (l = 0 ∧ (fun m a w' => m = 1 ∧ ∃ (X1 : Px), X1.few ∧ U1 C s.h s.ps X (X1.say C.self (XO C)) ∧ Jk 127 a [(0, pB C.b)] ∧ PxS w0 w' A C X1 er bd s Sd) m a w') ∨ (l = 1 ∧ (fun m a w' => m = 2 ∧ ∃ (Y : Px) (k : Nat) (q : Lr), PxGo (c + 1) o Y ∧ Y.h = X.h ∧ Y.wt = X.wt ∧ Y.lv[k]? = some q ∧ q.1.name = C.m.name ∧ (∀ X', Dg C s.h Y k q X' → U1 C s.h s.ps X X') ∧ Jk 127 a [(0, pB C.b), (3, .int .i64 (k : Int))] ∧ PxS w0 w' A C Y er bd s Sd) m a w')) ?_ ?_
 ·skip
  refine gp [[2,1,1,7,6],[902,0,3]] ?_; intro a S
  refine qN S M Kg ?_; intro a w1 bN S M hB
  refine go [[900,0],[4,1],[902,0,3]] ?_; intro a w2 S M
  refine qD S rfl (yL ⟨D, es, hI9, M.drop 0⟩ G.sort hf C.m.name) ?_
  rintro _ w3 ⟨k, y, rfl, hK, hF⟩; replace M := M.grow hK
  refine gp [[0,1,1,1,1,1],[5,1],[902,0,3]] ?_; intro a S
  refine qK S rfl (Qb ⟨D, es, hI9, M.drop 0⟩ hf C.m.name) M ?_; intro a w4 S hK M
  refine gq [[0,1,1,1,1,1],[4,1,1],[940,26]] ?_ ?_
  ·intro a h26 S
   refine gp [[0,0,0,0,1],[3]] ?_; intro a S
   refine wp_goto ?_
   refine VZ ?_
   refine Z4 ?_
   exact ⟨1, by omega, .inl ⟨rfl, rfl, X, hf, .inr (.inl ⟨rfl, by grind⟩), S.sub _ rfl, (PxS.closeL (L := [_]) hE hQ hI9 M).less (.cons _ (.refl _))⟩⟩
  intro a h26 S
  refine gp [[0,1],[902,0,3]] ?_; intro a S
  refine qD S rfl (zt (PxS.closeL (L := [.blk bN C.m.name.cells 43]) hE hQ hI9 M) hI C.m.name) ?_
  rintro _ w5 ⟨rfl, W1⟩; refine rv_ ?_; intro a S
  obtain ⟨da, dc, lo, hi, cs, es', E, D, es, hE, hQ, hI9, M⟩ := W1.openL
  replace M : Mem w0 w5 (.blk bN C.m.name.cells 43 :: D.ents X C er (es ++ stE C.bs bd s da dc lo hi cs (es' ++ (A ++ E)))) := M
  dsimp only [PxD.ents] at M
  refine gq [[0,1],[2],[940,30]] ?_ ?_
  ·intro a h30 S
   refine cT S (wp_goto ?_)
   refine VZ ?_
   refine Z4 ?_
   exact ⟨1, by omega, .inl ⟨rfl, rfl, X, hf, .inr (.inl ⟨rfl, by grind⟩), S.sub _ rfl, (PxS.closeL (L := [_]) hE hQ hI9 M).less (.cons _ (.refl _))⟩⟩
  intro a h30 S
  refine gq [[6,1,1],[2],[940,32]] ?_ ?_
  ·intro a h32 S
   refine gq [[4,1,1,7,9,2,1,1],[940,39]] ?_ ?_
   ·intro a h39 S
    refine gp [[0,0,0,0,0,0,0,0,1],[3]] ?_; intro a S
    refine wp_goto ?_
    refine VZ ?_
    refine VZ ?_
    refine Z4 ?_
    exact ⟨1, by omega, .inl ⟨rfl, rfl, X, hf, .inr (.inl ⟨rfl, by first | exact .inl a_ | exact .inr (.inl a_) | exact .inr (.inr (.inl o_)) | exact .inr (.inr (.inr o_))⟩), S.sub _ rfl, (PxS.closeL (L := [_]) hE hQ hI9 M).less (.cons _ (.refl _))⟩⟩
   intro a h39 S
   refine gq [[0,1,1,1,3,2],[903,59],[0,1,1],[2],[940,47]] ?_ ?_
   ·intro a h47 S
    refine cT S (wp_goto ?_)
    refine VZ ?_
    refine VZ ?_
    refine Z4 ?_
    exact ⟨1, by omega, .inl ⟨rfl, rfl, X, hf, .inr (.inl ⟨rfl, by first | exact .inl a_ | exact .inr (.inl a_) | exact .inr (.inr (.inl o_)) | exact .inr (.inr (.inr o_))⟩), S.sub _ rfl, (PxS.closeL (L := [_]) hE hQ hI9 M).less (.cons _ (.refl _))⟩⟩
   intro a h47 S
   refine gp [[4]] ?_; intro a S
   have hyf : y = false := by simpa using h32
   subst hyf
   have hkl := hF.1
   have hlt : X.lv.length < 64 := by omega
   have hcl : D.lcs.length = X.lv.length * 54 := hI9.lv.1
   have hcu := YR hI9.lv.2.1 (k * 54)
   refine go [[910,10,14],[911,0,1,1,1,1,3,2,1],[912,7,0,3]] ?_; intro a w6 S M
   refine Jj 8 S rfl (fun w => JW (ps := [(0, .tmp 55)]) (pl := [(0, 3), (3, 1), (4, 1), (5, 24), (29, 24), (53, 1)]) (z := cz1) (cs := (zLr C.m.name).1.cellsL Jz) S k_ rfl k_) ?_; intro a S
   refine k1_ 9 ?_
   refine JG (ps := [(0, .tmp 56)]) (e := 59) (sz := 54) (zl := cz1) (cs := (zLr C.m.name).1.cellsL Jz) S M rfl rfl k_ rfl k_ ?_; intro a w7 bZ S M hB
   refine kH_ hB ?_
   refine k1_ 10 ?_
   skip
   replace M := M.frn 5
   rw [← List.take_append_drop (k * 54) D.lcs] at M
   refine qD S rfl (Jag (la := D.la) (lc := D.lc) (i := k) (m := X.lv.length) (us := (zLr C.m.name).1.cellsL Jz) M (by rw [List.length_take]; omega) (by rw [List.length_drop]; omega) rfl hcu.2 (lvS.one (zLr C.m.name) Jz rfl) o_ hkl) ?_
   rintro _ w8 ⟨la', lc', lo', hi', rfl, M1⟩; refine rv_ ?_; intro a S; replace M := M1; clear M1
   refine kn_ ?_
   refine go [[911,11,1,1,3],[914,14,3],[2]] ?_; intro a w9 S M
   refine wp_goto ?_
   refine VZ ?_
   refine Z4 ?_
   skip
   replace M := M.drp 1
   replace M := M.od [7, 7, 7, 3, 7, 7, 7, 7]
   have eY : (X.ins k C.m.name).lv.length = X.lv.length + 1 := by show (X.lv.take k ++ _ :: X.lv.drop k).length = _; simp; omega
   have WY : PxS w0 _ ([_] ++ A) C (X.ins k C.m.name) er bd s Sd := PxS.closeL (da := da) (dc := dc) (lo := lo) (hi := hi) hE hQ (D := { D with la := la', lc := lc', l1 := lo', l2 := hi', lcs := _ }) ⟨hI9.lv.ins (z := 54) (lv := Jz) rfl hkl (.inl ⟨rfl, rfl⟩), hI9.ov, hI9.ml, hI9.el⟩ (by dsimp only [PxD.ents, PxD.cells]; rw [eY]; exact M)
   exact ⟨2, by omega, .inr ⟨rfl, rfl, X.ins k C.m.name, k, zLr C.m.name, G.ins hF hlt, rfl, rfl, by show (X.lv.take k ++ _ :: X.lv.drop k)[k]? = _; rw [List.getElem?_append_right (by rw [List.length_take]; omega), List.length_take, Nat.min_eq_left hkl, Nat.sub_self]; rfl, rfl, fun X' hx => .inr (.inr (.inl ⟨k, hF, hlt, by assumption, hx⟩)), S.sub _ rfl, WY.less (.cons _ (.refl _))⟩⟩
  intro a h32 S
  refine gp [[5]] ?_; intro a S
  have hfm := hf.ml
  obtain ⟨q, hq, hqn⟩ : ∃ q, X.lv[k]? = some q ∧ q.1.name = C.m.name := by
   obtain ⟨-, ⟨-, h⟩ | ⟨h, -⟩⟩ := hF
   ·exact h
   ·subst h; cases h32
  obtain ⟨lv, hrow, hws⟩ := hI9.lv.at hq
  replace hrow : (D.lcs.drop (k * 54)).take 54 = q.1.cellsL lv := hrow
  obtain ⟨va9, vc9, rfl, -⟩ := hws.form
  have hkl := (List.getElem?_eq_some_iff.1 hq).1
  refine gp [[1,1,1,1,3,2,1]] ?_; intro a S
  refine qY S (qX 59 54 S (M.readRow 4 rfl m_)) ?_; intro a S
  replace S := S.n_
  refine qY S (Ja S k_ rfl rfl (((M.readRow 4 rfl m_).at_.row (i := k) hrow rfl).part (i := 0) (k := 54) rfl)) ?_; intro a S
  refine qN S M cz6 ?_; intro a w10 bV S M hB
  refine gi [[900,0],[4],[920],[921,1,1,7,9,3,4,1,1,1],[2],[940,70]] ?_ ?_
  ·intro a w12 h70 S M
   refine gq [[4,5,1],[2],[943,80]] ?_ ?_
   ·intro a h80 S
    refine gp [[6]] ?_; intro a S
    refine yA ?_
    refine JV S rfl ?_
    (refine ⟨rfl, X, .inl ⟨rfl, q, List.mem_of_getElem? hq, hqn⟩, (PxS.closeL (L := [_, _]) hE hQ hI9 M).less (.cons _ (.cons _ (.refl _)))⟩)
   intro a h80 S
   refine go [[1],[910,10,14],[911,0,1,1,1,31,1,3,6]] ?_; intro a w13 S M
   refine kR 7 S rfl M (fun w M => Ja (cs := [_, _, _, _, _, _, _, _, _, _, _, _, _, _, _, _, _, _, _, _, _, _, _, _]) S k_ rfl rfl (M.cellsAt (k := 24) 0 rfl rfl)) ?_; intro a S
   refine k1_ 8 ?_
   refine qK S rfl (JcC q.1.ans _) M ?_; intro a w14 S hK M
   refine kH_ hK ?_
   refine k1_ 9 ?_
   refine JG (ps := [(0, .tmp 89)]) (e := 46) (sz := 24) (zl := cz0) (cs := (q.1.ans.cells Jz).toList) S M rfl rfl k_ rfl k_ ?_; intro a w15 bZ S M hB
   refine kH_ hB ?_
   refine k1_ 10 ?_
   refine JI (e := 46) (sz := 24) (by_ := 152) (zc := cz0) S M 8 rfl rfl k_ rfl d_ rfl rfl rfl (show Rd _ _ _ 24 _ 1 (q.1.ans.cells Jz).toList from M.sliceAt 0 rfl (M.cellsAt (k := 24) 0 rfl rfl) rfl (Nat.le_refl _) m_) (pmS.one (q.1.ans, []) Jz rfl) o_ m_ ?_; intro a w16 vA loA hiA S M
   refine kn_ ?_
   refine gp [[911,11,1,31,1]] ?_; intro a S
   refine k1_ 14 ?_
   obtain ⟨aA, cA, rfl, -, -⟩ := (M.readAll 0 rfl m_).form
   refine go [[900,4]] ?_; intro a w17 S M
   refine kn_ ?_
   refine gp [[5]] ?_; intro a S
   refine yA ?_
   refine JV S rfl ?_
   skip
   replace M := M.drp 1
   replace M := M.od [8, 1, 8, 8, 8, 8, 8, 8, 8]
   have hM' := hI9.ml.more (q := (q.1.ans, [])) (lv := Jz) (.inl ⟨rfl, rfl⟩)
   have eM : (X.told q.1.ans).ml.length = X.ml.length + 1 := by unfold Px.told; simp
   have ht : q.1.told = true := by assumption
   refine ⟨rfl, X.told q.1.ans, .inr (.inr (.inr ⟨k, q, hq, hqn, .inl ⟨ht, rfl⟩⟩)), PxS.less (A := [_, _] ++ A) (PxS.closeL (da := da) (dc := dc) (lo := lo) (hi := hi) hE hQ (D := { D with ma := aA, mc := cA, m1 := loA, m2 := hiA, mcs := _ }) ⟨hI9.lv, hI9.ov, hM', hI9.el⟩ (by dsimp only [PxD.ents, PxD.cells]; rw [eM]; exact M)) (.cons _ (.cons _ (.refl _)))⟩
  intro a w12 h70 S M
  refine gi [[2],[920],[921,1,1,7,9,3,4,1,1,1],[2],[940,95]] ?_ ?_
  ·intro a w18 h95 S M
   refine gp [[4]] ?_; intro a S
   refine yA ?_
   refine JV S rfl ?_
   (refine ⟨rfl, X, .inl ⟨rfl, q, List.mem_of_getElem? hq, hqn⟩, (PxS.closeL (L := [_, _]) hE hQ hI9 M).less (.cons _ (.cons _ (.refl _)))⟩)
  intro a w18 h95 S M
  refine gp [[2],[920],[921,1,1,7,9,3,4,1]] ?_; intro a S
  (refine qU S (fun w M => J2 S rfl rfl rfl) ?_); intro a S
  refine gp [[921,1,1]] ?_; intro a S
  refine qi 114 S ?_ ?_
  ·intro h114 S
   refine Vo 3 S rfl ?_
   refine go [[921,1,1],[5,1,1]] ?_; intro a w19 S M
   refine qD S rfl (YN (PxS.closeL (L := [_, _]) hE hQ hI9 M) hI ho G o_ o_ hok k q hq 121) ?_
   rintro _ w20 ⟨rfl, W2⟩; refine rv_ ?_; intro a S
   replace S := S.keep [0, 2, 3, 4, 6, 30, 32, 7, 70, 95, 104]
   refine nxC (wp_goto ?_)
   refine UU ?_
   refine VZ ?_
   refine Z4 ?_
   exact ⟨1, by omega, .inl ⟨rfl, rfl, _, ((G.less k).end_ hok C.self s.h q.1.name 121).few o_ o_, .inr (.inr (.inr ⟨k, q, hq, hqn, .inr (.inl rfl)⟩)), S.sub _ rfl, W2.less (.cons _ (.cons _ (.refl _)))⟩⟩
  intro h114 S
  refine gi [[921,5,1,1,1,1],[2],[940,104]] ?_ ?_
  ·intro a w21 h104 S M
   refine gp [[3,1,1]] ?_; intro a S
   refine qD S rfl (YN (PxS.closeL (L := [_, _]) hE hQ hI9 M) hI ho G o_ o_ hok k q hq 121) ?_
   rintro _ w22 ⟨rfl, W2⟩
   refine gp [[2]] ?_; intro a S
   refine wp_goto ?_
   refine UU ?_
   refine VZ ?_
   refine Z4 ?_
   exact ⟨1, by omega, .inl ⟨rfl, rfl, _, ((G.less k).end_ hok C.self s.h q.1.name 121).few o_ o_, .inr (.inr (.inr ⟨k, q, hq, hqn, .inr (.inl rfl)⟩)), S.sub _ rfl, W2.less (.cons _ (.cons _ (.refl _)))⟩⟩
  intro a w21 h104 S M
  refine gp [[5]] ?_; intro a S
  refine wp_label ?_
  refine gp [[3,1,1]] ?_; intro a S
  refine qD S rfl (Xb (PxS.closeL (L := [_, _]) hE hQ hI9 M) hI ho G o_ o_ hok k q hq hvn hvz b hb hb32 (by show (⟨q.1.name, C.m.block, C.m.op != 0⟩ : Lk).may = true; rw [hqn]; exact hmy)) ?_
  rintro _ w23 ⟨rfl, ea, ec, h', wt', act, hz, hr, W2⟩
  refine gp [[5]] ?_; intro a S
  refine yA ?_
  refine JV S rfl ?_
  (refine ⟨rfl, _, .inr (.inr (.inr ⟨k, q, hq, hqn, .inr (.inr ⟨?_, ea, ec, h', wt', act, hz, hr, rfl⟩)⟩)), W2.less (.cons _ (.cons _ (.refl _)))⟩
   first | assumption | (cases ht : q.1.told <;> simp_all))
 intro l m a wc hJ; rcases hJ with ⟨rfl, hJ⟩ | ⟨rfl, hJ⟩
 ·refine ⟨_, rfl, ?_⟩
  obtain ⟨rfl, X1, hf1, hx, S, W1⟩ := hJ
  refine gp [[4,1]] ?_; intro a S
  refine qD S rfl (W1.gone hf1) ?_
  rintro _ w24 ⟨rfl, W2⟩
  refine gp [[1]] ?_; intro a S
  refine Jdq ?_
  refine JD S rfl ?_
  (refine ⟨rfl, _, hx, ?_⟩; exact W2)
 ·refine ⟨_, rfl, ?_⟩
  obtain ⟨rfl, Y, k, q, GY, hh, hw, hq, hqn, hx, S, W1⟩ := hJ
  refine gp [[5,1,1]] ?_; intro a S
  refine qD S rfl (Xb W1 hI ho GY o_ o_ (by rw [hh, hw]; exact hok) k q hq hvn hvz b hb hb32 (by show (⟨q.1.name, C.m.block, C.m.op != 0⟩ : Lk).may = true; rw [hqn]; exact hmy)) ?_
  rintro _ w25 ⟨rfl, ea, ec, h', wt', act, hz, hr, W2⟩
  refine gp [[5]] ?_; intro a S
  refine yA ?_
  refine JV S rfl ?_
  (refine ⟨rfl, _, hx _ ⟨ea, ec, h', wt', act, hz, hr, rfl⟩, ?_⟩; exact W2)
end
structure ShO (s : Sh) : Prop where
 own : s.x.owned = 255
 inc : 1 ≤ s.x.inc
 ps : ∀ p ∈ s.ps, p.1.give = 0 ∧ p.1.take = 0
theorem PxD.shm {wc w : World} {L A : List Ent} {C : PxC} {X : Px} {er : Int} {bd : Nat} {s : Sh} {S : DS} {da : Option Addr} {dc lo hi : Nat} {cs : List Value} {es' E : List Ent} {D : PxD} {es : List Ent} (hE : DkE bd S E) (hB : PrBk cs s.ps es')
 (M : Mem wc w (L ++ D.ents X C er (es ++ stE C.bs bd s da dc lo hi cs (es' ++ (A ++ E))))) : ShM wc w (D.ents X C er (es ++ (L ++ A))) C.bs bd s S := by
 rw [← List.append_assoc, PxD.ents_app]
 exact ShM.close hE hB (M.perm (Gc (P := D.ents X C er [])).symm)
section
variable {w0 w : World} {A : List Ent} {C : PxC} {X : Px} {er : Int} {bd : Nat} {s : Sh} {Sd : DS}
theorem Jc1 {R : List Ent} (W : PxM w0 w R C X er) (ht : C.m.take = 0) : CQ 139 #[pB C.b] w (.bool false) := by
 obtain ⟨D, es, hI, M⟩ := W
 have hMb := M.blk 0 rfl
 clear M
 have M := Mem.start w
 refine qI Tryz.func139 94 ?_
 refine gp [[2,1],[5,1,1,7,23]] ?_; intro a S
 refine qY S (Jf S k_ rfl (show _ = some (Value.int .i64 C.m.take) from hMb.at M.below rfl)) ?_
 refine gq [[0,1],[2],[943,12]] ?_ ?_
 ·intro a h12 S
  exact absurd ht h12
 intro a h12 S
 refine gp [[3,1],[4],[930]] ?_
 exact ⟨rfl, M.below⟩
abbrev DQ (n : Nm) (g : Int) : Rc := ⟨2, n, false, g, 0, 0, 0, 0, 0⟩
def U0 (C : PxC) (h : List V8) (X X' : Px) (s s' : Sh) : Prop :=
 ((∃ y, X' = X.say C.self (Yx 5 C.m.name 0 0 y) ∧ s'.ps = s.ps) ∧ (Vg s.ps C.m.name = true ∨ (j1 X.ov C.m.name).isSome = true ∨ ∀ q ∈ X.lv, q.1.name ≠ C.m.name)) ∨
 ∃ k q, X.lv[k]? = some q ∧ q.1.name = C.m.name ∧
  ((∃ e, X' = ((X.less k).end_ C.self h q.1.name e).say C.self (Yx 5 C.m.name 0 0 false) ∧ s'.ps = s.ps ∧ (q.1.told = false ∨ (Ko s (DQ C.m.name C.m.give) q.2 → 8 < wQ s.ps + (nOf ((DQ C.m.name C.m.give).enc q.2).length + 1)))) ∨ (X' = (X.less k).say C.self (Yx 5 C.m.name 0 0 true) ∧ s'.ps = s.ps ++ [(⟨C.m.name, 0, 0⟩, q.2)]))
set_option maxHeartbeats 2000000 in
theorem DW {N : Int} {c o : Nat} (W : PxS w0 w A C X er bd s Sd) (hI : ShI Sd s N) (hN : N + 2 ≤ 1000) (hO : ShO s) (G : PxGo c o X) (hc : c ≤ 900) (ho2 : o ≤ 900) (hok : OkT X.h X.wt) (ht : C.m.take = 0) (hg : C.m.give = 0) :
 CT 80 #[pB C.b] w fun en w' => en = .returned (.tuple #[]) ∧ ∃ X' s' S', U0 C s.h X X' s s' ∧ s'.h = s.h ∧ ShO s' ∧ ShI S' s' (N + 2) ∧ PxS w0 w' A C X' er bd s' S' := by
 obtain ⟨da, dc, lo, hi, cs, es', E, D, es, hE, hQ, hI9, M⟩ := PxS.openL (L := []) W
 have hf := G.few o_ o_
 have hl := hf.lv
 have hI2 := hI.mono (M := N + 2) o_ hN
 replace M : Mem w0 w (D.ents X C er (es ++ stE C.bs bd s da dc lo hi cs (es' ++ (A ++ E)))) := M
 dsimp only [PxD.ents] at M
 refine qI Tryz.func80 88 ?_
 refine gp [[2,1,1,7,6],[902,0,3]] ?_; intro a S
 refine qN S M Kg ?_; intro a w1 bN S M hB
 refine go [[900,0],[5,1],[902,0,3]] ?_; intro a w2 S M
 refine qD S rfl (zt (PxS.closeL (L := [.blk bN C.m.name.cells 43]) hE hQ hI9 M) hI C.m.name) ?_
 rintro _ w3 ⟨rfl, W1⟩; refine rv_ ?_; intro a S
 obtain ⟨da, dc, lo, hi, cs, es', E, D, es, hE, hQ, hI9, M⟩ := W1.openL
 replace M : Mem w0 w3 (.blk bN C.m.name.cells 43 :: D.ents X C er (es ++ stE C.bs bd s da dc lo hi cs (es' ++ (A ++ E)))) := M
 dsimp only [PxD.ents] at M
 refine nxC (qi 15 S ?_ ?_)
 ·intro h15 S
  refine gp [[3,1]] ?_; intro a S
  refine qD S rfl ((PxS.closeL (L := [_]) hE hQ hI9 M).vote hf true) ?_
  rintro _ w4 ⟨rfl, W2⟩; refine rv_ ?_; intro a S
  refine nxC (wp_ret (Yu (JV S rfl ?_)))
  exact ⟨rfl, _, s, Sd, .inl ⟨⟨_, rfl, rfl⟩, by grind⟩, rfl, hO, hI2, W2.less (.cons _ (.refl _))⟩
 intro h15 S
 refine gp [[6,1],[902,0,3]] ?_; intro a S
 refine qK S rfl (Qb ⟨D, es, hI9, M.drop 0⟩ hf C.m.name) M ?_; intro a w5 S hK M
 refine gq [[0,1,1,1,1,1],[4,1],[2],[940,24]] ?_ ?_
 ·intro a h24 S
  refine gp [[3,1]] ?_; intro a S
  refine qD S rfl ((PxS.closeL (L := [_]) hE hQ hI9 M).vote hf false) ?_
  rintro _ w6 ⟨rfl, W2⟩; refine rv_ ?_; intro a S
  refine nxC (wp_ret (Yu (JV S rfl ?_)))
  exact ⟨rfl, _, s, Sd, .inl ⟨⟨_, rfl, rfl⟩, by grind⟩, rfl, hO, hI2, W2.less (.cons _ (.refl _))⟩
 intro a h24 S
 refine gp [[5,1],[902,0,3]] ?_; intro a S
 refine qD S rfl (yL ⟨D, es, hI9, M.drop 0⟩ G.sort hf C.m.name) ?_
 rintro _ w7 ⟨k, y, rfl, hK, hF⟩; replace M := M.grow hK
 refine gq [[0,1,1,1,1,1],[5,1,1],[2],[940,34]] ?_ ?_
 ·intro a h34 S
  refine gp [[3,1,1]] ?_; intro a S
  refine qK S rfl (Jc1 ⟨D, es, hI9, M.drop 0⟩ ht) M ?_; intro a w8 S hK M
  refine qD S rfl ((PxS.closeL (L := [_]) hE hQ hI9 M).vote hf false) ?_
  rintro _ w9 ⟨rfl, W2⟩; refine rv_ ?_; intro a S
  refine nxC (wp_ret (Yu (JV S rfl ?_)))
  exact ⟨rfl, _, s, Sd, .inl ⟨⟨_, rfl, rfl⟩, by first | exact .inl a_ | exact .inr (.inl a_) | (refine .inr (.inr fun q hq e => ?_); grind [Jh8])⟩, rfl, hO, hI2, W2.less (.cons _ (.refl _))⟩
 intro a h34 S
 refine gp [[5]] ?_; intro a S
 obtain ⟨q, hq, hqn⟩ : ∃ q, X.lv[k]? = some q ∧ q.1.name = C.m.name := by
  obtain ⟨-, ⟨-, h⟩ | ⟨h, -⟩⟩ := hF
  ·exact h
  grind
 obtain ⟨lv, hrow, hws⟩ := hI9.lv.at hq
 replace hrow : (D.lcs.drop (k * 54)).take 54 = q.1.cellsL lv := hrow
 obtain ⟨va9, vc9, rfl, -⟩ := hws.form
 have hkl := (List.getElem?_eq_some_iff.1 hq).1
 refine gp [[1,1,1,1,3,2,1]] ?_; intro a S
 refine qY S (qX 59 54 S (M.readRow 4 rfl (by grind [maxLen]))) ?_; intro a S
 replace S := S.n_
 refine qG [5] S ?_; intro a S
 refine qY S (Jf S k_ rfl ((M.readRow 4 rfl (by grind [maxLen])).at_.row (i := k) hrow rfl 4 (by grind))) ?_
 refine gq [[0,1],[2],[940,48]] ?_ ?_
 ·intro a h48 S
  refine gp [[3,1,1]] ?_; intro a S
  refine qD S rfl (YN (PxS.closeL (L := [_]) hE hQ hI9 M) hI hO.own G o_ o_ hok k q hq 121) ?_
  rintro _ w10 ⟨rfl, W2⟩; refine rv_ ?_; intro a S
  refine nxA (qG [1] S ?_); intro a S
  refine qD S rfl (W2.vote (((G.less k).end_ hok C.self s.h q.1.name 121).few o_ o_) false) ?_
  rintro _ w11 ⟨rfl, W3⟩; refine rv_ ?_; intro a S
  refine nxC (wp_ret (Yu (JV S rfl ?_)))
  exact ⟨rfl, _, s, Sd, .inr ⟨k, q, hq, hqn, .inl ⟨_, rfl, rfl, .inl o_⟩⟩, rfl, hO, hI2, W3.less (.cons _ (.refl _))⟩
 intro a h48 S
 refine go [[4],[910,20],[911,0,1,1,5,2],[912,4,0,3],[911,5,1,1,1,3,2,1]] ?_; intro a w12 S M
 refine kR 11 S rfl M (fun w M => qX 59 54 S (M.readRow 4 rfl (by grind [maxLen]))) ?_; intro a S
 replace S := S.n_
 refine kF 12 53 S ?_; intro a S
 refine kR 13 S rfl M (fun w M => Jf S k_ rfl ((M.readRow 4 rfl (by grind [maxLen])).at_.row (i := k) hrow rfl 53 (by simp_all))) ?_
 refine gp [[911,14,1,1,7,22,2]] ?_; intro a S
 refine Jj 19 S rfl (fun w => JW (ps := [(0, .const (.int .i8 2)), (1, .tmp 58), (3, .tmp 67), (4, .tmp 72)]) (pl := Gs) (z := cz7) (cs := [_, _, _, _, _, _, _, _, _, _, _, _]) S k_ rfl (rfl)) ?_; intro a S
 refine k1_ 20 ?_
 refine qD S rfl (XD (DQ C.m.name C.m.give) va9 vc9 q.2 (PxD.shm (L := [_]) hE hQ M) hI hN hO.inc (by show (0 : Int) ≤ 9223372036854775807; decide) (fun W9 M9 => (hws.ws M9 (fun e he => by simp [he])).wide (Nat.zero_le _) (Nat.le_refl _))) ?_
 rintro _ w13 ⟨e9, rfl, h9⟩; refine rv_ ?_; intro a S
 obtain ⟨s1, S1, hM1, hI1, hO1, hh1, hcase⟩ : ∃ s1 S1, PxS w0 w13 ([.blk bN C.m.name.cells 43] ++ A) C X er bd s1 S1 ∧ ShI S1 s1 (N + 2) ∧ ShO s1 ∧ s1.h = s.h ∧ ((e9 = 0 ∧ s1.ps = s.ps ++ [(⟨C.m.name, 0, 0⟩, q.2)]) ∨ (e9 ≠ 0 ∧ s1.ps = s.ps ∧ (Ko s (DQ C.m.name C.m.give) q.2 → 8 < wQ s.ps + (nOf ((DQ C.m.name C.m.give).enc q.2).length + 1)))) := by
  rcases h9 with ⟨h1, h2, h3, h4⟩ | ⟨h1, h8, h2⟩
  ·obtain ⟨s1, a1, a2, a3, ⟨S1, a4, a5⟩, a6⟩ := Jf3 hI hN h2 h3 h4
   have ep : s1.ps = s.ps ++ [(⟨C.m.name, 0, 0⟩, q.2)] := by rw [a2]; unfold V0; rw [hg]
   refine ⟨s1, S1, ⟨D, es, hI9, a5⟩, a4, ⟨a3.trans hO.own, by rw [a6]; exact hO.inc, fun p hp => ?_⟩, a1, .inl ⟨h1, ep⟩⟩
   rw [ep] at hp
   rcases List.mem_append.1 hp with hp | hp
   ·exact hO.ps p hp
   ·rw [List.mem_singleton.1 hp]; exact ⟨rfl, rfl⟩
  ·exact ⟨s, Sd, ⟨D, es, hI9, h2⟩, hI2, hO, rfl, .inr ⟨h1, rfl, fun h => (h8 h).2⟩⟩
 refine kn_ ?_
 refine kP 21 S ?_; intro a S
 refine kE_ ?_
 replace S := S.keep [0, 2, 15, 4, 24, 5, 6, 34, 48, 7]
 refine gq [[4,1,1],[2],[943,76]] ?_ ?_
 ·intro a h76 S
  refine gp [[2,1,1]] ?_; intro a S
  refine qD S rfl (hM1.leave hf k hkl) ?_
  rintro _ w16 ⟨rfl, W2⟩; refine rv_ ?_; intro a S
  refine nxC ?_
  obtain ⟨X2, hX2, hf2, W2⟩ : ∃ X2, U0 C s.h X (X2.say C.self (Yx 5 C.m.name 0 0 (e9 == 0))) s s1 ∧ X2.few ∧ PxS w0 w16 ([.blk bN C.m.name.cells 43] ++ A) C X2 er bd s1 S1 := by
   rcases hcase with ⟨h1, h2⟩ | ⟨h1, h2, h3⟩
   ·(refine ⟨_, .inr ⟨k, q, hq, hqn, .inr ⟨?_, h2⟩⟩, (G.less k).few o_ o_, W2⟩
     rw [h1]; rfl)
   ·exact absurd h76 h1
  refine gp [[1,1,1,1]] ?_; intro a S
  refine qD S rfl (W2.vote hf2 (e9 == 0)) ?_
  rintro _ w17 ⟨rfl, W3⟩; refine rv_ ?_; intro a S
  refine wpList_nil (JD S rfl ?_)
  exact ⟨rfl, _, s1, S1, hX2, hh1, hO1, hI1, W3.less (.cons _ (.refl _))⟩
 intro a h76 S
 refine gp [[2,1,1,1]] ?_; intro a S
 refine qD S rfl (YN hM1 hI1 hO1.own G o_ o_ hok k q hq e9) ?_
 rintro _ w14 ⟨rfl, W2⟩; refine rv_ ?_; intro a S
 refine nxC ?_
 obtain ⟨X2, hX2, hf2, W2⟩ : ∃ X2, U0 C s.h X (X2.say C.self (Yx 5 C.m.name 0 0 (e9 == 0))) s s1 ∧ X2.few ∧ PxS w0 w14 ([.blk bN C.m.name.cells 43] ++ A) C X2 er bd s1 S1 := by
  rcases hcase with ⟨h1, h2⟩ | ⟨h1, h2, h3⟩
  ·exact absurd h1 h76
  ·(refine ⟨_, .inr ⟨k, q, hq, hqn, .inl ⟨e9, ?_, h2, .inr h3⟩⟩, ((G.less k).end_ hok C.self s.h q.1.name e9).few o_ o_, by rw [← hh1]; exact W2⟩
    rw [show (e9 == 0) = false by simpa using h1])
 refine gp [[1,1,1,1]] ?_; intro a S
 refine qD S rfl (W2.vote hf2 (e9 == 0)) ?_
 rintro _ w15 ⟨rfl, W3⟩; refine rv_ ?_; intro a S
 refine wpList_nil (JD S rfl ?_)
 exact ⟨rfl, _, s1, S1, hX2, hh1, hO1, hI1, W3.less (.cons _ (.refl _))⟩
end
end Go.Proofs.YtocppoflhllelaaGreat
