/-
  What PartStrict rests on, part 17.
-/
import Derived.Test.YtocppoflhllelaaGreatP10
import Derived.Test.YtocppoflhllelaaGreatP12
namespace Go.Proofs.YtocppoflhllelaaGreat
open Go.RowKit Go.Sort
structure RB where
 lo : Nat
 hi : Nat
 a : Option Addr
 c : Nat
 bs : List UInt8
abbrev RB.val (r : RB) : Value := .slice r.a r.bs.length r.c
def RB.ent (r : RB) : Ent := Jd r.lo r.hi 5 1 r.val r.bs.length (Jh r.bs)
structure Sec where
 key : Int
 lo : Nat
 hi : Nat
 a : Option Addr
 c : Nat
 ws : List RB
abbrev Sec.val (s : Sec) : Value := .slice s.a s.ws.length s.c
def Sec.ent (s : Sec) : Ent := Jd s.lo s.hi 77 1 s.val s.ws.length (s.ws.map RB.val)
def Sec.ents (s : Sec) : List Ent := s.ent :: s.ws.map RB.ent
def jo (l : List Sec) : List Ent := l.flatMap Sec.ents
def VB (dur : List UInt8) (m : Nat) (down : Bool) : List Value := Jh dur ++ [.map (some m), .bool down]
abbrev eJ : Int → Value := fun z => .int .i64 z
def ZD (l : List Sec) (k : Int) : Option Sec := l.find? fun s => decide (s.key = k)
structure Dk where
 b : Nat
 m : Nat
 cl : Nat
 ml : Mes Int
 dur : List UInt8
 down : Bool
 secs : List Sec
structure Dk.Ok (D : Dk) : Prop where
 dur : D.dur.length = 2176
 good : Good eJ D.ml D.cl
 nodup : (D.secs.map Sec.key).Nodup
 tell : ∀ k, VJ D.ml k = (ZD D.secs k).map Sec.val
 sec : ∀ s ∈ D.secs, (0 ≤ s.key ∧ s.key < 34) ∧ s.ws ≠ [] ∧ ∀ r ∈ s.ws, r.bs.length = 64
def Dk.ents (D : Dk) : List Ent := .blk D.b (VB D.dur D.m D.down).toArray 130 :: J0 D.m D.ml D.cl :: jo D.secs
def YC (dur : List UInt8) (k : Nat) : List UInt8 := (dur.drop (k * 64)).take 64
theorem vU {dur : List UInt8} (h : dur.length = 2176) {k : Nat} (hk : k < 34) : (YC dur k).length = 64 := by
 grind [YC]
structure DS where
 dur : Nat → List UInt8
 cache : Int → List (List UInt8)
 down : Bool
def YG (l : List Sec) (k : Int) : List (List UInt8) := match ZD l k with
 | some s => s.ws.map RB.bs
 | none => []
def Dk.st (D : Dk) : DS := ⟨YC D.dur, YG D.secs, D.down⟩
def DkE (b : Nat) (S : DS) (E : List Ent) : Prop := ∃ D : Dk, D.b = b ∧ D.Ok ∧ D.st = S ∧ E = D.ents
theorem Jcf {dur : List UInt8} (h : dur.length = 2176) (m : Nat) (d : Bool) : (VB dur m d).length = 2178 := by
 grind [VB, Jw]
theorem Z8 {dur : List UInt8} (h : dur.length = 2176) (m : Nat) (d : Bool) : (VB dur m d).toArray[2176]? = some (.map (some m)) := by
 grind [VB, Jw]
theorem zu {dur : List UInt8} (h : dur.length = 2176) (m : Nat) (d : Bool) : (VB dur m d).toArray[2177]? = some (.bool d) := by
 grind [VB, Jw]
/-! maps -/
section
variable {κ : Type} [DecidableEq κ] {enc : κ → Value}
theorem Jf4 (l : Mes κ) (c : Nat) (k k' : κ) (v : Value) : VJ (Yg enc l c k v).1 k' = if k' = k then some v else VJ l k' := by
 unfold Yg
 split
 ·rename_i hk
  unfold VJ zi
  rw [List.find?_map]
  have e : ((fun p : κ × MapEntry => decide (p.1 = k')) ∘ fun p : κ × MapEntry => if p.1 = k then (p.1, { p.2 with val := v }) else p) = fun p => decide (p.1 = k') := by
   grind
  rw [e]
  by_cases h : k' = k
  ·subst h
   rw [if_pos rfl]
   obtain ⟨p, hp, hpk⟩ := List.mem_map.1 hk
   cases hf : l.find? (fun p => decide (p.1 = k')) with
   | none =>
     grind
   | some q =>
     grind
  ·rw [if_neg h]
   cases hf : l.find? (fun p => decide (p.1 = k')) with
   | none => rfl
   | some q =>
     grind
 grind [VJ]
end
/-! a sector of the map -/
theorem QT {l : List Sec} {k : Int} {s : Sec} (h : ZD l k = some s) : ∃ P Q, l = P ++ s :: Q ∧ s.key = k := by
 have hm := List.mem_of_find?_eq_some h
 have hk := List.find?_some h
 obtain ⟨P, Q, e⟩ := List.append_of_mem hm
 grind
theorem Jbr {l : List Sec} {k : Int} : ZD l k = none ↔ ∀ s ∈ l, s.key ≠ k := by
 grind [ZD]
theorem yX {P Q : List Sec} {s : Sec} (hn : ((P ++ s :: Q).map Sec.key).Nodup) (k : Int) : ZD (P ++ s :: Q) k = if k = s.key then some s else ZD (P ++ Q) k := by
 grind [ZD]
theorem WP (P Q : List Sec) (s : Sec) : (jo (P ++ s :: Q)).Perm (s.ents ++ jo (P ++ Q)) := by
 grind [jo, List.Perm.append_right, List.perm_append_comm]
section
variable {w0 w : World} {H A : List Ent}
theorem JfW : KeyT Tryz.prog 3 eJ := JhU Tryz.underlying3
set_option maxRecDepth 100000 in
theorem JaC (w : World) : (zeroValue 117).run Tryz.prog w = .ok (.slice none 0 0) w := by
 simp_all
theorem Jef (k : Int) (w : World) : CQ 47 #[.int .i64 k] w (.bool (decide (0 ≤ k ∧ k < 34))) := by
 have M := Mem.start w
 refine qI Tryz.func47 9 ?_
 refine gq [[2,1],[4,1,1,1],[940,5]] ?_ ?_
 ·intro a h5 S
  refine gp [[0,1,1,1,1],[3],[930]] ?_
  refine ⟨Jb ?_, M.below⟩; grind
 intro a h5 S
 refine gp [[0,0,0,1,1],[3],[930]] ?_
 refine ⟨Jb ?_, M.below⟩; grind
theorem Dk.open {D : Dk} (O : D.Ok) (k : Int) (_ : 0 ≤ k ∧ k < 34) (M : Mem w0 w (D.ents ++ A)) :
 ∃ (P Q : List Sec) (s : Sec), s.key = k ∧ (D.secs = P ++ s :: Q ∨ (D.secs = P ++ Q ∧ s.ws = [])) ∧ ((P ++ s :: Q).map Sec.key).Nodup ∧ (VJ D.ml k).getD (.slice none 0 0) = s.val ∧ YG D.secs k = s.ws.map RB.bs ∧ (∀ r ∈ s.ws, r.bs.length = 64) ∧
  Mem w0 w (.blk D.b (VB D.dur D.m D.down).toArray 130 :: J0 D.m D.ml D.cl :: s.ent :: (s.ws.map RB.ent ++ jo (P ++ Q) ++ A)) := by
 cases hs : ZD D.secs k with
 | some s =>
   obtain ⟨P, Q, e, hkey⟩ := QT hs
   refine ⟨P, Q, s, hkey, .inl e, by rw [← e]; exact O.nodup, by rw [O.tell, hs]; rfl, by grind [YG], fun r hr => (O.sec s (by grind)).2.2 r hr, ?_⟩
   refine M.perm ?_
   unfold Dk.ents
   rw [e]
   refine List.Perm.cons _ (List.Perm.cons _ ?_)
   have := (WP P Q s).append_right A
   unfold Sec.ents at this
   simp_all
 | none =>
   have hno := Jbr.1 hs
   refine ⟨D.secs, [], ⟨k, w.heap.size, w.heap.size, none, 0, []⟩, rfl, .inr ⟨by simp, rfl⟩, ?_, by rw [O.tell, hs]; rfl, by grind [YG], fun r hr => (by cases hr), ?_⟩
   ·rw [List.map_append, List.nodup_append]
    refine ⟨O.nodup, by simp, fun x hx y hy e => ?_⟩
    grind
   ·have M1 := M.rowNil 77 1
    refine M1.perm ?_
    simp only [List.append_nil, List.map_nil, List.nil_append]
    unfold Dk.ents
    exact (List.Perm.swap _ _ _).trans (List.Perm.cons _ (List.Perm.swap _ _ _))
def DS.write (S : DS) (k : Int) (bs : List UInt8) : DS := { S with cache := fun j => if j = k then S.cache k ++ [bs] else S.cache j }
def Dk.put (D : Dk) (k : Int) (P Q : List Sec) (s : Sec) : Dk := ⟨D.b, D.m, (Yg eJ D.ml D.cl k s.val).2, (Yg eJ D.ml D.cl k s.val).1, D.dur, D.down, P ++ s :: Q⟩
theorem Dk.close {D : Dk} (O : D.Ok) {P Q : List Sec} {s s' : Sec} {r : RB} {k : Int} (hk : 0 ≤ k ∧ k < 34) (hkey : s.key = k) (hsec : D.secs = P ++ s :: Q ∨ (D.secs = P ++ Q ∧ s.ws = [])) (hnd : ((P ++ s :: Q).map Sec.key).Nodup) (hca : YG D.secs k = s.ws.map RB.bs) (h64 : ∀ r ∈ s.ws, r.bs.length = 64)
 (hs'k : s'.key = k) (hs' : s'.ws = s.ws ++ [r]) (hr : r.bs.length = 64)
 (M : Mem w0 w (.blk D.b (VB D.dur D.m D.down).toArray 130 :: J0 D.m (Yg eJ D.ml D.cl k s'.val).1 (Yg eJ D.ml D.cl k s'.val).2 :: s'.ent :: r.ent :: (s.ws.map RB.ent ++ jo (P ++ Q) ++ A))) :
 ∃ E, DkE D.b (D.st.write k r.bs) E ∧ Mem w0 w (E ++ A) := by
 have hnd' : ((P ++ s' :: Q).map Sec.key).Nodup := by
  grind
 have hold : ∀ j, j ≠ k → ZD D.secs j = ZD (P ++ Q) j := fun j hj => by
  grind [yX]
 refine ⟨(D.put k P Q s').ents, ⟨D.put k P Q s', rfl, ⟨O.dur, O.good.put _ _, hnd', fun j => ?_, fun t ht => ?_⟩, ?_, rfl⟩, ?_⟩
 ·show VJ (Yg eJ D.ml D.cl k s'.val).1 j = (ZD (P ++ s' :: Q) j).map Sec.val
  rw [Jf4, yX hnd']
  by_cases e : j = k
  ·grind
  ·rw [if_neg e, if_neg o_, O.tell, hold j e]
 ·replace ht : t ∈ P ++ s' :: Q := ht
  rcases List.mem_append.1 ht with h | h
  ·exact O.sec t (by grind)
  ·rcases List.mem_cons.1 h with rfl | h
   ·refine ⟨by omega, by rw [hs']; simp, fun q hq => ?_⟩
    grind
   ·exact O.sec t (by rcases hsec with e | ⟨e, -⟩ <;> rw [e] <;> simp [h])
 ·unfold Dk.st DS.write Dk.put
  simp only
  congr 1
  funext j
  unfold YG at hca ⊢
  rw [yX hnd']
  by_cases e : j = k
  ·subst e
   rw [if_pos hs'k.symm, if_pos rfl, hca]
   simp [hs']
  ·rw [if_neg (by rw [hs'k]; exact e), if_neg e, ← hold j e]
 ·refine M.perm ?_
  unfold Dk.ents Dk.put
  refine List.Perm.cons _ (List.Perm.cons _ ?_)
  have h1 := ((WP P Q s').append_right A).symm
  refine List.Perm.trans ?_ h1
  unfold Sec.ents
  rw [hs', List.map_append, List.map_cons, List.map_nil]
  simp only [List.cons_append, List.append_assoc, List.nil_append]
  exact List.Perm.cons _ List.perm_middle.symm
end
section
variable {bs : List UInt8}
def VF (bs : List UInt8) : List UInt8 := bs ++ List.replicate (64 - bs.length) 0
theorem G5 (h : bs.length ≤ 64) : (VF bs).length = 64 := by grind [VF]
theorem Qa (h : bs.length = 64) : VF bs = bs := by unfold VF; simp_all
theorem KQ (bs : List UInt8) : (List.replicate 64 (Value.int .u8 0)).take 0 ++ Jh bs ++ (List.replicate 64 (Value.int .u8 0)).drop (0 + bs.length) = Jh (VF bs) := by
 rw [List.take_zero, List.nil_append, Nat.zero_add, List.drop_replicate, VF, Vv]
 congr 1
 simp [Jh]
theorem Jeb : y7 [Value.int .u8 0] 64 = List.replicate 64 (Value.int .u8 0) := by kernel_rfl
set_option maxHeartbeats 1000000 in
theorem yT {wc w : World} {A E : List Ent} {b : Nat} {S0 : DS} {k : Int} {v : Value} (hE : DkE b S0 E) (M : Mem wc w (A ++ E)) (hv : RdH wc A v bs) (hup : S0.down = false) (hk : 0 ≤ k ∧ k < 34) (hb : bs.length ≤ 64) (hw : (S0.cache k).length ≤ 1000000) :
 CT 21 #[p_ b, .int .i64 k, v] w fun e w' => e = .returned (.int .i64 0) ∧ ∃ E', DkE b (S0.write k (VF bs)) E' ∧ Mem wc w' (A ++ E') := by
 obtain ⟨D, rfl, O, rfl, rfl⟩ := hE
 have hA : ∀ W, Mem wc W (D.ents ++ A) → Mem wc W A := fun W M => M.sub (List.sublist_append_right _ _)
 replace M := M.perm List.perm_append_comm
 have hM0 := M
 replace M : Mem wc w (.blk D.b (VB D.dur D.m D.down).toArray 130 :: J0 D.m D.ml D.cl :: (jo D.secs ++ A)) := M
 have hd : D.down = false := hup
 have hpl := G5 hb
 obtain ⟨va, vc, rfl, hvc, -⟩ := (hv _ (hA _ hM0)).form
 refine qI Tryz.func21 49 ?_
 refine gp [[2,1],[5,1]] ?_; intro a S
 refine qY S (J9 k_ S rfl) ?_
 refine gp [[8,1,1,2178]] ?_; intro a S
 refine qY S (Jf S k_ rfl (M.cell 0 rfl ((zu O.dur _ _).trans (by rw [hd])))) ?_
 refine gp [[2],[941,13],[6,1]] ?_; intro a S
 refine qK S rfl (Jef k _) M ?_; intro a w1 S hK M
 refine gp [[0,1,1],[941,17],[0,1],[903,5],[0,1,1],[2],[941,21],[6,1,1,2177]] ?_; intro a S
 refine qY S (Jf S k_ rfl (M.cell 0 rfl (Z8 O.dur _ _))) ?_; intro a S
 refine qY S (Jhh k_ S rfl) ?_; intro a S
 replace S := S.keep [0, 1, 2, 6, 9, 13, 21, 26]
 refine nxC (cF S (wp_skip (nxE (Z2 (e := 5) (sz := 1) (by_ := 1) (zc := Ym) S M rfl rfl k_ rfl rfl o_ o_ o_ o_ ?_)))); intro a w2 bSE S M hB
 try simp only [Int.reduceToNat, Nat.reduceMul] at S M
 refine gp [[0,1],[4,1,1]] ?_; intro a S
 refine Kt (e := 5) (us := Jh bs) S M 0 rfl rfl k_ rfl rfl rfl (hv _ (M.sub (.cons _ (.cons _ (.cons _ (List.sublist_append_right _ _)))))) (List.take_of_length_le (by grind [Jh])) (JA _) (by grind [Yz, Jw]) ?_; intro a w3 S M
 replace M := M.s_
 refine nxC (wp_seq ?_)
 have M3 := M
 rw [Jw] at M3
 replace M : Mem wc w3 (.blk bSE (Jh (VF bs)).toArray 5 :: .blk D.b (VB D.dur D.m D.down).toArray 130 :: J0 D.m D.ml D.cl :: (jo D.secs ++ A)) := by
  grind [KQ, Jeb]
 clear M3
 obtain ⟨r, hr⟩ : ∃ r : RB, r = ⟨bSE, bSE + 1, some ⟨bSE, 0, none⟩, 64, VF bs⟩ := ⟨_, rfl⟩
 have hrv : r.val = .slice (some ⟨bSE, 0, none⟩) 64 64 := by grind
 have hrb : r.bs = VF bs := by rw [hr]
 have M4 := M.toRow (sz := 1) (m := (VF bs).length) (cap := 64) (xs := Jh (VF bs)) 0 rfl (by grind [Jw]) o_ d_ (by grind [Jw]) (by grind [Jw])
 replace M : Mem wc w3 (r.ent :: (D.ents ++ A)) := by rw [hr]; exact M4
 clear M4
 obtain ⟨P, Q, s, hkey, hsec, hnd, hval, hca, h64, M5⟩ := Dk.open O k hk (A := r.ent :: A) (M.perm List.perm_middle.symm)
 clear M; have M := M5; clear M5
 have hwl : s.ws.length ≤ 1000000 := by
  have e : (YG D.secs k).length = s.ws.length := by grind
  rw [← e]; exact hw
 refine Yo (C := fun W => Blk W D.b (VB D.dur D.m D.down).toArray 130) [13, 14] #[false, false, false, false, false, false, false, false, false, false, false, false, false, false, false] rfl M k_ ?_; intro w4 M; have hC := M.blk 0 rfl
 refine kcP 0 S hC ?_; intro a S
 refine kcP 1 S hC ?_; intro a S
 refine kcF 2 2176 S hC ?_; intro a S
 refine JT 3 S rfl hC (fun w hC => Jf S k_ rfl ((hC.cells 2176).trans (Z8 O.dur _ _))) ?_; intro a S
 refine kcP 4 S hC ?_; intro a S
 refine kcP 5 S hC ?_; intro a S
 refine kcP 6 S hC ?_; intro a S
 refine kcF 7 2176 S hC ?_; intro a S
 refine JT 8 S rfl hC (fun w hC => Jf S k_ rfl ((hC.cells 2176).trans (Z8 O.dur _ _))) ?_; intro a S
 refine kcP 9 S hC ?_; intro a S
 refine Yf 10 S rfl hC (fun w hW => have M := M.grow hW; V9 (pos := 1) S M (JfW) (O.good) Tryz.underlying126 (JaC) rfl rfl rfl) ?_; intro a S
 simp only [Bool.false_eq_true, if_false, hval] at S
 refine kcP 11 S hC ?_; intro a S
 refine VV 12 rfl k_ ?_
 refine JG (ps := [(0, .tmp 46)]) (e := 77) (sz := 1) (zl := [.slice none 0 0]) (cs := [_]) S M rfl rfl k_ rfl (rfl) ?_; intro a w5 bZ S M hB
 replace hC := M.blk 1 rfl
 refine nxC ⟨fun _ => hB, hC, ?_⟩
 refine VV 13 rfl k_ ?_
 refine qP_ (e := 77) (sz := 1) (by_ := 24) (zc := [.slice none 0 0]) S M 3 rfl rfl rfl (show Rd _ _ _ 1 _ 1 [Value.slice (some ⟨bSE, 0, none⟩) 64 64] from M.sliceAt 0 rfl (M.cellsAt (k := 1) 0 rfl rfl) rfl (Nat.le_refl _) (by grind [maxLen])) ?_; intro a w6 vA loA hiA S M
 replace hC := M.blk 2 rfl
 refine nxC ⟨fun h => absurd h d_, hC, ?_⟩
 refine VV 14 rfl k_ ?_
 obtain ⟨aA, cA, rfl, -, -⟩ := (M.readAll 0 rfl m_).form
 refine VU (pos := 3) S M (JfW) (O.good) Tryz.underlying126 rfl rfl rfl rfl rfl ?_; intro w7 M
 replace M := M.s_
 replace hC := M.blk 2 rfl
 refine nxC ⟨fun h => absurd h d_, hC, ?_⟩
 refine vS k_ ?_
 replace S := S.keep [0, 1, 2, 6, 9, 13, 21, 26, 7]
 refine gp [[3,1],[3],[930]] ?_
 refine ⟨rfl, ?_⟩
 replace M := M.od [3, 3]
 replace M := M.drp 3
 obtain ⟨s', hs'⟩ : ∃ s' : Sec, s' = ⟨k, loA, hiA, aA, cA, s.ws ++ [r]⟩ := ⟨_, rfl⟩
 have hsl : (s.ws ++ [r]).length = s.ws.length + 1 := by simp
 have hsv : s'.val = .slice aA (s.ws.length + 1) cA := by rw [hs']; unfold Sec.val; rw [hsl]
 have := Dk.close O (s' := s') (r := r) hk hkey hsec hnd hca h64 (by rw [hs']) (by rw [hs']) (by rw [hrb]; exact hpl) (A := A) (w0 := wc) (w := w7)
 rw [hrb] at this
 have hse : s'.ent = Jd loA hiA 77 1 (.slice aA (s.ws.length + 1) cA) (s.ws.length + 1) (s.ws.map RB.val ++ [.slice (some ⟨bSE, 0, none⟩) 64 64]) := by
  rw [hs']; unfold Sec.ent Sec.val; simp only [hsl, List.map_append, List.map_cons, List.map_nil, hrv]
 rw [hsv, hse] at this
 obtain ⟨E', h1, h2⟩ := this (M.perm (List.Perm.cons _ (List.Perm.cons _ (List.Perm.cons _ List.perm_middle))))
 exact ⟨E', h1, h2.perm List.perm_append_comm⟩
end
theorem UQ (v : Value) (bs : List UInt8) (w : World) (hv : Bs 0 w.heap.size w v bs) (hl : bs.length ≤ 140737488351232) : CT 226 #[v] w fun e w' => ∃ v', e = .returned v' ∧ Fresh w w' 5 1 v' bs.length (Jh bs) := by
 have M := Mem.start w
 refine qI Tryz.func226 8 ?_
 refine gp [[2,1],[5,1]] ?_; intro a S
 refine qY S (ZJ (e := 5) S rfl (M.arg hv) k_) ?_; intro a S
 refine nxC (Js (t := 4) S rfl ?_ ?_)
 ·intro h4 S
  refine gp [[3,1],[4],[930]] ?_
  obtain ⟨rfl, h0, h1⟩ := hv.nilV h4
  exact ⟨_, rfl, by rw [h1, h0]; exact M.freshNil _ _⟩
 intro h4 S
 refine cF S (wp_skip (nxE (jJ (e := 5) (sz := 1) (by_ := 1) (zc := Ym) S M rfl rfl k_ ?_))); intro a w1 b1 S M hB
 refine qG [1] S ?_; intro a S
 replace M := M.toRow (sz := 1) (m := 0) (cap := 0) (xs := []) 0 rfl rfl (Nat.le_refl _) (Nat.zero_le _) rfl rfl
 refine JI (e := 5) (sz := 1) (by_ := 1) (zc := Ym) S M 0 rfl rfl k_ rfl d_ rfl rfl rfl (M.arg hv) (JA _) o_ (by grind [maxLen]) ?_; intro a w2 vA loA hiA S M
 refine gp [[0,1],[3],[930]] ?_
 exact ⟨_, rfl, by have := M.fresh 0 rfl; grind⟩
theorem JeM {dur : List UInt8} (h : dur.length = 2176) {m : Nat} {d : Bool} {k : Nat} (hk : k < 34) {W : World} {b : Nat} {T : TypeId} (B : Blk W b (VB dur m d).toArray T) : CellsAt W b (k * 64) (Jh (YC dur k)) := by
 intro j hj
 rw [Jw, vU h hk] at hj
 rw [B.cells]
 unfold VB YC
 rw [List.getElem?_toArray, List.getElem?_append_left (by grind [Jw]), ← UX, List.getElem?_take_of_lt hj, List.getElem?_drop]
def DS.get (S : DS) (k : Nat) : List UInt8 := match (S.cache (k : Int)).getLast? with
 | some b => b
 | none => S.dur k
theorem Mem.readB {w0 w : World} {H : List Ent} (M : Mem w0 w H) {r : RB} (hr : r.ent ∈ H) (hl : r.bs.length ≤ 1000000) : Bs 0 w.heap.size w r.val r.bs := by
 obtain ⟨p, hp⟩ := List.getElem?_of_mem hr
 exact M.readAll p hp (by grind [maxLen])
set_option maxHeartbeats 1000000 in
theorem Ke {wc w : World} {A E : List Ent} {b : Nat} {S0 : DS} {k : Nat} (hE : DkE b S0 E) (M : Mem wc w (A ++ E)) (hup : S0.down = false) (hk : k < 34) (hw : (S0.cache (k : Int)).length ≤ 1000000) :
 CT 145 #[p_ b, .int .i64 (k : Int)] w fun e w' => ∃ v', e = .returned (.tuple #[v', .int .i64 0]) ∧ Fresh w w' 5 1 v' (S0.get k).length (Jh (S0.get k)) ∧ (S0.get k).length = 64 := by
 obtain ⟨D, rfl, O, rfl, rfl⟩ := hE
 obtain ⟨P, Q, s, hkey, hsec, hnd, hval, hca, h64, M1⟩ := Dk.open O (k : Int) o_ (M.perm List.perm_append_comm)
 clear M; have M := M1; clear M1
 have hd : D.down = false := hup
 have hwl : s.ws.length ≤ 1000000 := by
  have e : (YG D.secs (k : Int)).length = s.ws.length := by grind
  rw [← e]; exact hw
 have hget : D.st.get k = match s.ws.getLast? with | some r => r.bs | none => YC D.dur k := by
  unfold DS.get Dk.st
  grind
 have hM0 := M
 refine qI Tryz.func145 39 ?_
 refine gp [[2,1,1],[5,1]] ?_; intro a S
 refine qY S (J9 k_ S rfl) ?_
 refine gp [[8,1,1,2178]] ?_; intro a S
 refine qY S (Jf S k_ rfl (M.cell 0 rfl ((zu O.dur _ _).trans (by rw [hd])))) ?_
 refine gp [[2],[941,12],[6,1]] ?_; intro a S
 refine qK S rfl (Jef (k : Int) _) M ?_; intro a w1 S hK M
 refine gp [[0,1],[2],[941,15],[6,1,1,2177]] ?_; intro a S
 refine qY S (Jf S k_ rfl (M.cell 0 rfl (Z8 O.dur _ _))) ?_
 refine gp [[0,1]] ?_; intro a S
 refine qY S (V9 (pos := 1) S M (JfW) (O.good) Tryz.underlying126 (JaC) rfl rfl rfl) ?_; intro a S
 simp only [Bool.false_eq_true, if_false, hval] at S
 refine qY S (JP S rfl) ?_
 refine gq [[4,1],[903,77],[0,1],[2],[943,24]] ?_ ?_
 ·intro a h24 S
  refine gp [[4]] ?_; intro a S
  have hws : s.ws = [] := List.eq_nil_of_length_eq_zero o_
  have hget2 : D.st.get k = YC D.dur k := by grind
  refine gp [[1,1,1,1,1],[906,34,64]] ?_; intro a S
  refine qY S (ZH (m := 64) (sz := 1) S k_ rfl) ?_; intro a S
  refine qD S rfl (UQ _ (YC D.dur k) _ (by unfold Bs; rw [vU O.dur hk]; exact M.sliceAt (m := 64) (sz := 1) 0 rfl (JeM O.dur hk (M.blk 0 rfl)) (by rw [Jw, vU O.dur hk]) (Nat.le_refl _) d_) (by rw [vU O.dur hk]; decide)) ?_
  rintro _ w3 ⟨v', rfl, hF⟩
  refine gp [[0,1,1],[3],[931]] ?_
  exact ⟨v', rfl, by rw [hget2]; exact hF.from hK, by rw [hget2]; exact vU O.dur hk⟩
 intro a h24 S
 refine cT S (wp_seq ?_)
 obtain ⟨r, hr⟩ : ∃ r, s.ws[s.ws.length - 1]? = some r := ⟨_, List.getElem?_eq_getElem o_⟩
 have hrm := List.mem_of_getElem? hr
 have hget2 : D.st.get k = r.bs := by rw [hget, List.getLast?_eq_getElem?, hr]
 have hrl := h64 r hrm
 refine gp [[1,1,1],[903,77],[901]] ?_; intro a S
 rw [show ((s.ws.length : Int) - 1) = ((s.ws.length - 1 : Nat) : Int) by omega] at S
 refine gp [[905,77,1,2]] ?_; intro a S
 refine qY S (Jf S k_ rfl ((M.readAll 2 rfl m_).at_.one (s.ws.length - 1) (by rw [List.getElem?_map, hr]; rfl))) ?_; intro a S
 refine qD S rfl (UQ r.val r.bs _ (M.readB (r := r) (by simp only [List.mem_cons, List.mem_append, List.mem_map]; exact .inr (.inr (.inr (.inl (.inl ⟨r, hrm, rfl⟩))))) o_) o_) ?_
 rintro _ w2 ⟨v', rfl, hF⟩
 refine gp [[0,1,1],[4],[931]] ?_
 exact ⟨v', rfl, by rw [hget2]; exact hF.from hK, by rw [hget2]; exact hrl⟩
section
variable {dur bs : List UInt8} {k : Nat} {s : Sec}
def Wt (dur : List UInt8) (k : Nat) (bs : List UInt8) : List UInt8 := dur.take (k * 64) ++ bs ++ dur.drop (k * 64 + 64)
theorem Jgk (h : dur.length = 2176) (hk : k < 34) (hb : bs.length = 64) : (Wt dur k bs).length = 2176 := by
 grind [Wt]
theorem Jic (h : dur.length = 2176) (hk : k < 34) (hb : bs.length = 64) (j : Nat) : YC (Wt dur k bs) j = if j = k then bs else YC dur j := by
 have hl : (dur.take (k * 64)).length = k * 64 := by grind
 unfold YC Wt
 by_cases e : j = k
 ·grind
 ·rw [if_neg e]
  rcases Nat.lt_or_ge j k with hj | hj
  ·grind [List.drop_take]
  ·have hl2 : (dur.take (k * 64) ++ bs).length = k * 64 + 64 := by grind
   rw [List.drop_append, List.drop_of_length_le o_, List.nil_append, hl2, List.drop_drop]
   grind
theorem Jce {m : Nat} {d : Bool} (h : dur.length = 2176) (hk : k < 34) (hb : bs.length = 64) : (VB dur m d).take (k * 64) ++ Jh bs ++ (VB dur m d).drop (k * 64 + (Jh bs).length) = VB (Wt dur k bs) m d := by
 grind [VB, Wt, Jh, List.map_take, List.map_drop]
theorem Jf9 {l : Mes Int} (h : (l.map (·.1)).Nodup) {q : Int × MapEntry} (hq : q ∈ l) : VJ l q.1 = some q.2.val := by
 unfold VJ
 cases hf : l.find? (fun p => decide (p.1 = q.1)) with
 | none => grind
 | some p =>
   have h1 := List.find?_some hf
   have h2 := List.mem_of_find?_eq_some hf
   simp only [decide_eq_true_eq] at h1
   obtain ⟨i, hi⟩ := List.getElem?_of_mem hq
   obtain ⟨j, hj⟩ := List.getElem?_of_mem h2
   have e1 : (l.map (·.1))[i]? = some q.1 := by grind
   have e2 : (l.map (·.1))[j]? = some q.1 := by grind
   grind [List.getElem?_inj]
theorem Q4 {α : Type} : ∀ {a b : List α}, a.Nodup → (∀ x ∈ a, x ∈ b) → a.length ≤ b.length
 | [], _, _, _ => Nat.zero_le _
 | x :: a, b, hn, hs => by
   obtain ⟨b1, b2, rfl⟩ := List.append_of_mem (hs x (by simp))
   rw [List.nodup_cons] at hn
   have := Q4 (a := a) (b := b1 ++ b2) hn.2 fun y hy => by
    grind
   grind
def DS.flush (S : DS) : DS := ⟨S.get, fun _ => [], S.down⟩
theorem Dk.look {D : Dk} (O : D.Ok) {q : Int × MapEntry} (hq : q ∈ D.ml) : ∃ (s : Sec) (r : RB) (k : Nat), s ∈ D.secs ∧ q.1 = (k : Int) ∧ k < 34 ∧ q.2.val = s.val ∧ 0 < s.ws.length ∧ s.ws[s.ws.length - 1]? = some r ∧ r.bs.length = 64 ∧ D.st.get k = r.bs := by
 have h1 := Jf9 O.good.nodup hq
 rw [O.tell] at h1
 cases hs : ZD D.secs q.1 with
 | none => grind
 | some s =>
   rw [hs] at h1
   have hv : s.val = q.2.val := Option.some.inj h1
   obtain ⟨P, Q, e, hkey⟩ := QT hs
   have hm : s ∈ D.secs := by grind
   obtain ⟨⟨hk1, hk2⟩, hne, h64⟩ := O.sec s hm
   have hpos : 0 < s.ws.length := List.length_pos_iff.2 hne
   obtain ⟨r, hr⟩ : ∃ r, s.ws[s.ws.length - 1]? = some r := ⟨_, List.getElem?_eq_getElem o_⟩
   refine ⟨s, r, q.1.toNat, hm, by omega, by omega, hv.symm, hpos, hr, h64 r (List.mem_of_getElem? hr), ?_⟩
   unfold DS.get Dk.st YG
   grind
theorem Dk.getNo {D : Dk} (O : D.Ok) (h : ∀ q ∈ D.ml, q.1 ≠ (k : Int)) : D.st.get k = YC D.dur k := by
 have hn : (k : Int) ∉ D.ml.map (·.1) := fun hm => by
  grind
 have h1 := O.tell (k : Int)
 rw [Xj hn] at h1
 unfold DS.get Dk.st YG
 grind
theorem Mem.secRow {w0 w : World} {H : List Ent} (M : Mem w0 w H) (hs : s.ent ∈ H) (hl : s.ws.length ≤ 1000000) : Rd 0 w.heap.size w 1 s.val s.ws.length (s.ws.map RB.val) := by
 obtain ⟨p, hp⟩ := List.getElem?_of_mem hs
 exact M.readAll p hp (by grind [maxLen])
theorem WQ {l : List Sec} (h : s ∈ l) : s.ent ∈ jo l := List.mem_flatMap.2 ⟨s, h, List.mem_cons_self ..⟩
theorem Jft {l : List Sec} (h : s ∈ l) {r : RB} (hr : r ∈ s.ws) : r.ent ∈ jo l := List.mem_flatMap.2 ⟨s, h, List.mem_cons_of_mem _ (List.mem_map_of_mem hr)⟩
theorem Jgl {b m cl : Nat} (h : dur.length = 2176) : Dk.Ok ⟨b, m, cl, [], dur, false, []⟩ := ⟨h, ZS _, .nil, fun _ => rfl, fun s hs => (by cases hs)⟩
set_option maxHeartbeats 2000000 in
theorem Xk {wc w : World} {A E : List Ent} {b : Nat} {S0 : DS} (hE : DkE b S0 E) (M : Mem wc w (A ++ E)) (hup : S0.down = false) (hw : ∀ k, (S0.cache k).length ≤ 1000000) :
 CT 22 #[p_ b] w fun e w' => e = .returned (.int .i64 0) ∧ ∃ E', DkE b S0.flush E' ∧ Mem wc w' (A ++ E') := by
 obtain ⟨D, rfl, O, rfl, rfl⟩ := hE
 replace M := M.perm List.perm_append_comm
 have hd : D.down = false := hup
 have hsl : ∀ s ∈ D.secs, s.ws.length ≤ 1000000 := fun s hs => by
  have h1 := hw s.key
  obtain ⟨P, Q, e⟩ := List.append_of_mem hs
  have h2 := yX (by rw [← e]; exact O.nodup) (P := P) (Q := Q) (s := s) s.key
  rw [if_pos rfl, ← e] at h2
  unfold Dk.st YG at h1
  grind
 replace M : Mem wc w (.blk D.b (VB D.dur D.m D.down).toArray 130 :: J0 D.m D.ml D.cl :: (jo D.secs ++ A)) := M
 refine qI Tryz.func22 38 ?_
 refine gp [[2,1],[5,1]] ?_; intro a S
 refine qY S (J9 k_ S rfl) ?_
 refine gp [[8,1,1,2178]] ?_; intro a S
 refine qY S (Jf S k_ rfl (M.cell 0 rfl ((zu O.dur _ _).trans (by rw [hd])))) ?_
 refine gp [[2],[941,10],[6,1,1,2177]] ?_; intro a S
 refine qY S (Jf S k_ rfl (M.cell 0 rfl (Z8 O.dur _ _))) ?_; intro a S
 refine Jdh (pos := 1) S M Tryz.underlying126 rfl rfl rfl rfl ?_; intro a w1 bI S M hB
 refine nxC (wp_block (Jc (fun m a w' => ∃ (vs : Mes Int) (dur : List UInt8), (∀ p ∈ vs, p ∈ D.ml) ∧ vs.Nodup ∧ m = D.ml.length - vs.length ∧ dur.length = 2176 ∧ (∀ j : Nat, YC dur j = if (j : Int) ∈ vs.map (·.1) then D.st.get j else YC D.dur j) ∧ Jk 38 a [(0, .pointer (some ⟨D.b, 0, none⟩)), (15, p_ bI)] ∧ Mem wc w' (itX bI D.m D.cl (Ze vs) D.cl :: .blk D.b (VB dur D.m D.down).toArray 130 :: J0 D.m D.ml D.cl :: (jo D.secs ++ A))) (D.ml.length) ?_ ?_))
 ·skip
  exact ⟨[], D.dur, fun p h => (by cases h), .nil, rfl, O.dur, fun j => (by simp), S.sub _ rfl, M⟩
 intro m a wl
 rintro ⟨vs, dur, hvs, hnd, rfl, hdl, hdat, S, M⟩
 refine nxD (Jfl (pos := 0) (pm := 2) S M (O.good) (hvs) rfl rfl rfl rfl rfl ?_ ?_)
 ·intro hAll; intro a S
  refine gp [[0,1],[11,1,1,2177]] ?_; intro a S
  refine qY S (Jf S k_ rfl (M.cell 1 rfl (Z8 hdl _ _))) ?_; intro a S
  refine Jdi (pos := 2) S M Tryz.underlying126 rfl rfl rfl ?_; intro w2 M
  replace M := M.s_
  refine gp [[4,1],[3],[930]] ?_
  refine ⟨rfl, ?_⟩
  replace M := M.drp 0
  have hfl : D.st.flush = Dk.st ⟨D.b, D.m, D.cl, [], dur, false, []⟩ := by
   unfold DS.flush
   show DS.mk D.st.get (fun _ => []) D.st.down = DS.mk (YC dur) (YG []) false
   rw [show D.st.down = false from hd]
   congr 1
   funext j
   rw [hdat j]
   by_cases e : (j : Int) ∈ vs.map (·.1)
   ·rw [if_pos e]
   ·rw [if_neg e]
    exact Dk.getNo O fun q hq e2 => e (List.mem_map.2 ⟨q, hAll q hq, e2⟩)
  rw [hfl]
  refine ⟨_, ⟨⟨D.b, D.m, D.cl, [], dur, false, []⟩, rfl, Jgl hdl, rfl, rfl⟩, ?_⟩
  rw [hd] at M
  exact (M.sub (H' := Dk.ents ⟨D.b, D.m, D.cl, [], dur, false, []⟩ ++ A) (.cons_cons _ (.cons_cons _ (List.sublist_append_right _ _)))).perm List.perm_append_comm
 intro q hq hnv; intro a w3 S M
 replace M := M.s_
 refine gp [[0,1],[9]] ?_; intro a S
 refine qY S (Je7 (pos := 0) (pm := 2) S M (O.good) hq rfl rfl rfl) ?_
 refine gp [[0,1,1,1,1],[2]] ?_; intro a S
 obtain ⟨s, r, k, hsm, hqk, hk34, hqv, hpos, hr, hr64, hget⟩ := Dk.look O hq
 have hrm := List.mem_of_getElem? hr
 have hlw := hsl s hsm
 rw [hqk, hqv] at S
 refine go [[910,12],[911,0,1,1,1,1]] ?_; intro a w4 S M
 refine Jj 4 S rfl (fun w => VM (m := 34) (sz := 64) S k_ rfl rfl o_) ?_; intro a S
 replace S := S.n_
 refine Jj 5 S rfl (fun w => ZH (m := 64) (sz := 1) S k_ rfl) ?_
 refine gp [[911,6,1,1]] ?_; intro a S
 refine Jj 8 S rfl (fun w => qH 77 S) ?_; intro a S
 skip
 (refine Jj 9 S rfl (fun w => Qz S rfl rfl o_) ?_); intro a S
 rw [show ((s.ws.length : Int) - 1) = ((s.ws.length - 1 : Nat) : Int) by omega] at S
 refine kR 10 S rfl M (fun w M => qX 77 1 S (M.secRow (s := s) (.tail _ (.tail _ (.tail _ (List.mem_append_left _ (WQ hsm))))) hlw)) ?_; intro a S
 replace S := S.n_
 refine kR 11 S rfl M (fun w M => Jf S k_ rfl ((M.secRow (s := s) (.tail _ (.tail _ (.tail _ (List.mem_append_left _ (WQ hsm))))) hlw).at_.one (s.ws.length - 1) (by rw [List.getElem?_map, hr]; rfl))) ?_; intro a S
 refine k1_ 12 ?_
 refine Kt (e := 5) (us := Jh r.bs) S M 1 rfl rfl k_ rfl rfl rfl (M.readB (r := r) (.tail _ (.tail _ (.tail _ (List.mem_append_left _ (Jft hsm hrm))))) o_) (List.take_of_length_le (by rw [Jw]; omega)) (JA _) (by rw [Jcf hdl, Jw]; omega) ?_; intro a w5 S M
 replace M := M.s_
 refine kn_ ?_
 refine gp [[3]] ?_; intro a S
 rw [Jce hdl hk34 hr64] at M
 have hnd2 : (vs ++ [q]).Nodup := by
  rw [List.nodup_append]
  exact ⟨hnd, by simp, fun x hx y hy e => hnv (by simp at hy; rw [← hy, ← e]; exact hx)⟩
 have hvs2 : ∀ p ∈ vs ++ [q], p ∈ D.ml := fun p hp => by
  rcases List.mem_append.1 hp with h | h
  ·exact hvs p h
  ·obtain rfl := List.mem_singleton.1 h; exact hq
 have hlt := Q4 hnd2 hvs2
 rw [List.length_append] at hlt
 refine ⟨D.ml.length - (vs ++ [q]).length, by rw [List.length_append]; simp at hlt ⊢; omega, vs ++ [q], _, hvs2, hnd2, rfl, Jgk hdl hk34 hr64, fun j => ?_, S.sub _ rfl, M⟩
 grind [Jic]
end
theorem zL (v : Value) (bs : List UInt8) (w : World) (hv : Bs 0 w.heap.size w v bs) : CQ 146 #[v] w (.bool (JB bs)) := by
 have M := Mem.start w
 have hl := hv.2.1
 unfold maxLen at hl
 refine qI Tryz.func146 14 ?_
 refine gp [[2,1],[5,1],[908,5],[0,1],[3]] ?_; intro a S
 refine Jc (fun m a w' => ∃ k : Nat, k ≤ bs.length ∧ m = bs.length - k ∧ (∀ i x, i < k → bs[i]? = some x → x = 0) ∧ Jk 14 a [(5, v), (6, .int .i64 (bs.length : Int)), (7, .int .i64 (k : Int))] ∧ Mem w w' []) (bs.length) ?_ ?_
 ·skip
  exact ⟨0, by omega, rfl, fun i _ h => absurd h o_, S.sub _ rfl, M⟩
 intro m a wl
 rintro ⟨k, hk, rfl, hpre, S, M⟩
 refine gq [[2,1],[3],[943,8]] ?_ ?_
 ·intro a h8 S
  refine gp [[8,1],[3],[930]] ?_
  refine ⟨Jb ?_, M.below⟩
  grind [KI]
 intro a h8 S
 refine gp [[6]] ?_; intro a S
 have hkl : k < bs.length := by omega
 obtain ⟨x, hx⟩ : ∃ x, bs[k]? = some x := ⟨_, List.getElem?_eq_getElem hkl⟩
 refine gp [[1],[907,5,1]] ?_; intro a S
 refine qY S (Jf S k_ rfl ((M.arg hv).byte hx)) ?_
 refine gq [[0,1],[4,1,1],[2],[940,12]] ?_ ?_
 ·intro a h12 S
  refine gp [[3,1],[8],[930]] ?_
  refine ⟨Jb ?_, M.below⟩
  rw [WB hx]
  rintro rfl
  grind
 intro a h12 S
 refine gp [[5],[901],[0,1],[2]] ?_; intro a S
 refine ⟨bs.length - (k + 1), by omega, k + 1, by omega, rfl, fun i y hi hy => ?_, S.sub _ rfl, M⟩
 rcases Nat.lt_or_ge i k with h | h
 ·grind
 ·obtain rfl : i = k := by omega
  rw [hx] at hy; cases hy
  exact UInt8.toNat.inj (by grind)
theorem JdZ (v : Value) (bs : List UInt8) (n : Nat) (w : World) (hv : Bs 0 w.heap.size w v bs) (hb : bs.length ≤ 1000) (hn : n + 4 ≤ bs.length) :
 CT 150 #[v, .int .i64 ((n + 4 : Nat) : Int)] w (OpnP bs n w) := by
 have M := Mem.start w
 have hcap := hv.cap
 have hX := hv.cutB (i := n + 4) (j := bs.length) (mx := Yb v) o_ (Nat.le_refl _) hcap.1 (Nat.le_refl _)
 rw [List.take_of_length_le (by simp)] at hX
 have hY := hv.cutB (i := 0) (j := n + 4) (mx := n + 4) (Nat.zero_le _) o_ o_ o_
 rw [List.drop_zero, Nat.sub_zero] at hY
 refine qI Tryz.func150 24 ?_
 refine gp [[2,1,1],[5,1],[908,5],[0,1,1,1],[941,10],[0,1,1]] ?_; intro a S
 refine qY S (jH (e := 5) (sz := 1) S k_ rfl (M.arg hv) rfl o_) ?_; intro a S
 refine qK S rfl (zL _ (bs.drop (n + 4)) _ (M.argW hX)) M ?_; intro a w1 S hK M
 refine gq [[0,1,1],[2],[940,16]] ?_ ?_
 ·intro a h16 S
  refine gp [[3,1,1],[4],[931]] ?_
  grind [JaK, YD]
 intro a h16 S
 refine gp [[5,1,1,1]] ?_; intro a S
 refine qY S (yi (e := 5) (sz := 1) S k_ rfl (M.arg hv) rfl rfl o_) ?_; intro a S
 refine qD S rfl (D5 _ (bs.take (n + 4)) _ (M.argW hY) (by grind)) ?_
 rintro _ w2 ⟨v2, rfl, hK, hF, hN⟩; have hK0 := M.below; replace M := M.grow hK
 refine gp [[0,1,1,1,1],[3],[931]] ?_
 exact OpnP.mk o_ hn hK0 M.below hF hN
theorem Zr (n l m : Int) (w : World) : CQ 293 #[.int .i64 n, .int .i64 l, .int .i64 m] w (.bool (decide (l ≤ n ∧ n ≤ m))) := by
 have M := Mem.start w
 refine qI Tryz.func293 15 ?_
 refine gq [[2,1],[4,1,1,1,1],[940,10]] ?_ ?_
 ·intro a h10 S
  refine gp [[0,1,1,1,1,1],[3],[930]] ?_
  refine ⟨Jb ?_, M.below⟩
  grind
 intro a h10 S
 refine gp [[0,0,0,0,1,1],[3],[930]] ?_
 refine ⟨Jb ?_, M.below⟩
 grind
theorem Su.mAt_lst (s : Su) {k : Nat} (h : k < 8) : [Value.int .i64 s.m0, .int .i64 s.m1, .int .i64 s.m2, .int .i64 s.m3, .int .i64 s.m4, .int .i64 s.m5, .int .i64 s.m6, .int .i64 s.m7][k]? = some (.int .i64 (s.mAt k)) := by
 rcases lt8 h with rfl | rfl | rfl | rfl | rfl | rfl | rfl | rfl <;> rfl
theorem Ea (s : Su) (w : World) : CQ 229 #[.agg s.cellsL.toArray] w (.bool (decide s.may)) := by
 have M := Mem.start w
 refine qI Tryz.func229 37 ?_; intro a S
 refine nxD (qW_ S M ?_); intro a w1 bB S M hB
 refine gp [[0,1],[5,6],[902,0,8],[0,1],[3]] ?_; intro a S
 refine Jc (fun m a w' => ∃ k : Nat, k ≤ 8 ∧ m = 8 - k ∧ (∀ i, i < k → 0 ≤ s.mAt i ∧ s.mAt i ≤ 4) ∧ Jk 37 a [(1, p_ bB), (6, .agg #[.int .i64 s.m0, .int .i64 s.m1, .int .i64 s.m2, .int .i64 s.m3, .int .i64 s.m4, .int .i64 s.m5, .int .i64 s.m6, .int .i64 s.m7]), (7, .int .i64 (k : Int))] ∧ Mem w w' [.blk bB s.cellsL.toArray 71]) (8) ?_ ?_
 ·skip
  exact ⟨0, by omega, rfl, fun i h => absurd h o_, S.sub _ rfl, M⟩
 intro m a wl
 rintro ⟨k, hk, rfl, hpre, S, M⟩
 refine gq [[2,1],[3],[940,8]] ?_ ?_
 ·intro a h8 S
  refine gp [[7]] ?_; intro a S
  refine qY S (vj (m := 8) (sz := 1) S k_ (fun e he => by cases he.symm.trans (show _ = some (.array 8 3) by kernel_rfl); kernel_rfl) rfl rfl o_ (show _ = some (Value.int .i64 (s.mAt k)) from (by rw [Int.toNat_natCast, Nat.mul_one]; exact s.mAt_lst o_))) ?_
  refine gp [[0,1],[4,1]] ?_; intro a S
  refine qK S rfl (Zr _ _ _ _) M ?_; intro a w2 S hK M
  refine gq [[0,1],[2],[940,12]] ?_ ?_
  ·intro a h12 S
   refine gp [[3,1],[8],[930]] ?_
   refine ⟨Jb ?_, M.below⟩
   rw [decide_eq_false]
   rintro ⟨h1, -⟩
   have := h1 k o_
   omega
  intro a h12 S
  refine gp [[5],[901],[0,1],[2]] ?_; intro a S
  refine ⟨8 - (k + 1), by omega, k + 1, by omega, rfl, fun i hi => ?_, S.sub _ rfl, M⟩
  grind
 intro a h8 S
 refine gp [[8,1,1]] ?_; intro a S
 refine qK S rfl (Zr _ _ _ _) M ?_; intro a w3 S hK M
 refine gq [[0,1],[943,17]] ?_ ?_
 ·intro a h17 S
  refine gp [[0,0,0,0,1,1,0,0,0,1,1,0,0,0,1,1,0,0,0,1,1],[3],[930]] ?_
  refine ⟨Jb ?_, M.below⟩
  grind [Su.may]
 intro a h17 S
 refine gp [[0,2,1]] ?_; intro a S
 refine qK S rfl (Zr _ _ _ _) M ?_; intro a w4 S hK M
 refine gq [[0,1,1],[943,22]] ?_ ?_
 ·intro a h22 S
  refine gp [[0,0,0,0,1,1,0,0,0,1,1,0,0,0,1,1],[3],[930]] ?_
  refine ⟨Jb ?_, M.below⟩
  grind [Su.may]
 intro a h22 S
 refine gp [[0,3,1]] ?_; intro a S
 refine qK S rfl (Zr _ _ _ _) M ?_; intro a w5 S hK M
 refine gq [[0,1,1],[943,27]] ?_ ?_
 ·intro a h27 S
  refine gp [[0,0,0,0,1,1,0,0,0,1,1],[3],[930]] ?_
  refine ⟨Jb ?_, M.below⟩
  grind [Su.may]
 intro a h27 S
 refine gp [[0,4,1]] ?_; intro a S
 refine qK S rfl (Zr _ _ _ _) M ?_; intro a w6 S hK M
 refine gq [[0,1,1],[943,32]] ?_ ?_
 ·intro a h32 S
  refine gp [[0,0,0,0,1,1],[3],[930]] ?_
  refine ⟨Jb ?_, M.below⟩
  grind [Su.may]
 intro a h32 S
 refine gp [[0,5,1]] ?_; intro a S
 refine qK S rfl (Zr _ _ _ _) M ?_; intro a w7 S hK M
 refine gp [[0,1,1],[3],[930]] ?_
 refine ⟨Jb ?_, M.below⟩
 have hm : s.mapOk := fun i hi => hpre i o_
 grind [Su.may]
theorem Jb4 (w : World) : CQ 148 #[] w (.agg Y6.cellsL.toArray) := by
 have M := Mem.start w
 refine qI Tryz.func148 2 ?_; intro a S
 refine nxD (qN S M cz2 ?_); intro a w1 bB S M hB
 refine nxA (qB_ zw cz5 S ?_); intro a S
 refine go [[900,0],[3]] ?_; intro a w2 S M
 refine Vb S rfl (rA_ 13 0 M) ?_
 exact ⟨rfl, M.below⟩
theorem Jf8 {bs : List UInt8} {p k : Nat} (hk : 1 ≤ k ∧ k ≤ 6) (hp : p + k ≤ bs.length) : jB bs (p : Int) (k : Int) = JZ bs p k := by
 grind [jB, JZ]
theorem jI {wo w : World} {H : List Ent} {bV bA : Nat} {v : Value} {bs : List UInt8} (p k : Nat) (M : Mem wo w (.blk bA #[.int .i64 (p : Int)] 3 :: .blk bV #[v] 77 :: H)) (hv : RdH wo H v bs) (hk : 1 ≤ k ∧ k ≤ 6) (hp : p + k ≤ bs.length) (hb : bs.length ≤ 1000) :
 CT 227 #[.int .i64 (k : Int), p_ bV, p_ bA] w fun e w' => e = .returned (.int .i64 (JZ bs p k)) ∧ Mem wo w' (.blk bA #[.int .i64 ((p + k : Nat) : Int)] 3 :: .blk bV #[v] 77 :: H) := by
 refine qI Tryz.func227 18 ?_
 refine gp [[2,1],[4,2,1,1]] ?_; intro a S
 refine qK S rfl (Jh4 v bs (p : Int) (k : Int) _ (hv _ ((M.drop 0).drop 0)) o_) M ?_; intro a w1 S hK M
 rw [Jf8 hk hp] at S
 refine go [[0,1,1,1,1,1],[4,1,1],[901],[900,0],[4,1,1],[3],[930]] ?_; grind
theorem Jaj (x y : Su) (w : World) : CQ 144 #[.agg x.cellsL.toArray, .agg y.cellsL.toArray] w (.bool (decide (y.gen < x.gen))) := by
 have M := Mem.start w
 refine qI Tryz.func144 10 ?_; intro a S
 refine nxD (qW_ S M ?_); intro a w1 bX S M hB
 refine qW_ S M ?_; intro a w2 bY S M hB
 refine gp [[0,1],[4,1,2,1,1,1,1],[3],[930]] ?_
 refine ⟨Jb ?_, M.below⟩
 rfl
def DkW (b : Nat) (S : DS) (W : World) : Prop := ∃ wc A E, DkE b S E ∧ Mem wc W (A ++ E)
structure SecC (b bf bd : Nat) (tail : Int) (S : DS) (W : World) : Prop where
 disk : DkW b S W
 f : Blk W bf #[.int .i64 tail] 3
 d : Blk W bd #[p_ b] 75
def Zj (S : DS) (tail : Int) (i : Nat) : List UInt8 := S.get (2 + (tail + i) % 24).toNat
def Jiv (S : DS) (tail : Int) : List (List UInt8) := (List.range 24).map (Zj S tail)
def vo (tail : Int) : Nat := min 24 (1099511627777 - tail).toNat
def QS (S : DS) (tail : Int) : List (List UInt8) := (List.range (vo tail)).map (Zj S tail)
def Jiw (x : List UInt8) (vs : List Value) (E : List Ent) : Prop := ∃ v lo hi, vs = [v, .int .i64 0] ∧ E = [Jd lo hi 5 1 v x.length (Jh x)] ∧ x.length = 64
theorem Jfz {α : Type} (f : Nat → α) {k n : Nat} (h : k < n) : ∃ t, (List.range n).map f = (List.range k).map f ++ f k :: t := by
 refine ⟨((List.range n).map f).drop (k + 1), ?_⟩
 have hl : ((List.range n).map f).length = n := by simp
 have ht : ((List.range n).map f).take k = (List.range k).map f := by
  rw [← List.map_take, List.take_range, Nat.min_eq_left o_]
 grind [List.take_append_drop, List.drop_eq_getElem_cons]
theorem JbA {α : Type} (f : Nat → α) (k : Nat) : (List.range (k + 1)).map f = (List.range k).map f ++ [f k] := by simp [List.range_succ]
set_option maxHeartbeats 2000000 in
theorem DI (b bf bd : Nat) (tail : Int) (S0 : DS) (hup : S0.down = false) (hw : ∀ k, (S0.cache k).length ≤ 1000000) (ht : 1 ≤ tail ∧ tail ≤ 1099511627776) : Jjh Tryz.prog 297 [p_ bf, p_ bd] Jiw (QS S0 tail) (SecC b bf bd tail S0) := by
 intro ll w0 I X w Hs0 hC hY h0 M
 refine vh Tryz.func297 rfl 36 rfl rfl ?_; intro a S
 refine wpIn_seq ?_
 refine Jq k_ (by rintro _ _ ⟨⟨_, h⟩, -⟩; cases h) ?_
 refine qG [1] S ?_; intro a S
 refine nxC (wpIn_block ?_)
 refine jW (fun m a w' => ∃ (i : Nat) (Hs : List Ent), i ≤ vo tail ∧ m = 24 - i ∧ I ((List.range i).map (Zj S0 tail)) Hs ∧ Jk 36 a [(0, .func (.yield ll) #[] #[]), (1, p_ bf), (2, p_ bd), (8, .int .i64 (i : Int))] ∧ Mem w0 w' Hs) (24) ?_ ?_
 ·skip
  exact ⟨0, Hs0, Nat.zero_le _, rfl, h0, S.sub _ rfl, M⟩
 intro m a wl
 rintro ⟨i, Hs, hi', rfl, hI, S, M⟩
 refine wpIn_seq ?_
 refine Jq k_ (by rintro _ _ ⟨⟨_, h⟩, -⟩; cases h) ?_
 refine qG [1] S ?_; intro a S
 refine nxC (wpIn_seq ?_)
 refine qf 9 S ?_ ?_
 ·intro h9 S
  refine Vc S rfl ?_
  refine wpIn_exit ?_
  refine gp [[3]] ?_; intro a S
  refine JD S rfl ?_
  obtain rfl : i = vo tail := by
   grind [vo]
  exact ⟨⟨_, rfl⟩, Hs, M, .inl hI⟩
 intro h9 S
 refine Ya S rfl ?_
 refine wpIn_skip ?_
 refine Jn (wpIn_seq ?_)
 refine wpIn_block ?_
 refine wpIn_seq ?_
 have hlt : i < 24 := by omega
 refine Jq k_ (by rintro _ _ ⟨⟨_, h⟩, -⟩; cases h) ?_
 refine gp [[0,1,1],[2]] ?_; intro a S
 refine wpIn_seq ?_
 refine Jq k_ (by rintro _ _ ⟨⟨_, h⟩, -⟩; cases h) ?_
 refine qY S (Jf S k_ rfl (((hC _ _ _ hI M).f).cells 0)) ?_
 refine gp [[0,1],[901]] ?_; intro a S
 refine qK S rfl (EO (tail + (i : Int)) _) M ?_; intro a w1 S hK M
 refine gp [[0,1,1,1,1,1],[2]] ?_; intro a S
 refine wpIn_seq ?_
 refine wpIn_seq ?_
 refine Jq k_ (by rintro _ _ ⟨⟨_, h⟩, -⟩; cases h) ?_
 refine gq [[0,1,1],[2],[940,19]] ?_ ?_
 ·intro a h19 S
  refine Ya S rfl ?_
  refine wpIn_ret ?_
  refine gp [[5]] ?_; intro a S
  refine JV S rfl ?_
  obtain rfl : i = vo tail := by
   grind [plE, vo]
  exact ⟨⟨_, rfl⟩, Hs, M, .inl hI⟩
 intro a h19 S
 refine Vc S rfl ?_
 refine wpIn_skip ?_
 refine Jn (wpIn_seq ?_)
 have hin : 1 ≤ tail + (i : Int) ∧ tail + (i : Int) ≤ 1099511627776 := by
  grind [plE]
 have hpe : plE (tail + (i : Int)) = 0 := by omega
 have hpv : plV (tail + (i : Int)) = (((2 + (tail + (i : Int)) % 24).toNat : Nat) : Int) := by grind [plV]
 rw [hpe, hpv] at S
 have hlt2 : i < vo tail := by grind [vo]
 obtain ⟨tx, hx⟩ := Jfz (Zj S0 tail) hlt2
 refine Jq k_ (by rintro _ _ ⟨⟨_, h⟩, -⟩; cases h) ?_
 refine qY S (Jf S k_ rfl (((hC _ _ _ hI M).d).cells 0)) ?_
 refine gp [[0,1]] ?_; intro a S
 refine qD S rfl ((by obtain ⟨wc, A, E, hE, MM⟩ := (hC _ _ _ hI M).disk; exact Ke hE MM hup o_ (hw _))) ?_
 rintro _ w2 ⟨v', rfl, hF, h64⟩; refine rv_ ?_; intro a S
 obtain ⟨lo, hi, -, M2⟩ := M.pushFresh hF; clear M; have M := M2; clear M2
 refine gp [[0,1,1,1,1,1],[2]] ?_; intro a S
 refine wpIn_seq ?_
 refine zP 3 k_ (by rintro _ _ ⟨⟨_, h⟩, -⟩; cases h) ?_; simp only [List.take_succ_cons, List.take_zero, List.drop_succ_cons, List.drop_zero]
 refine qG [1, 1, 1] S ?_; intro a S
 refine wpList_nil ?_; refine Jn ?_
 refine vM (xs := [.tmp 27, .tmp 28]) S rfl k_ rfl rfl (hY ((List.range i).map (Zj S0 tail)) (Zj S0 tail i) tx [_] [v', .int .i64 0] Hs _ hx ⟨v', lo, hi, rfl, rfl, h64⟩ hI M) ?_
 rintro e w3 ⟨Hs2, M2, hh⟩
 obtain ⟨bb, rfl, hb⟩ : ∃ bb, e = .returned (.bool bb) ∧ ((bb = true ∧ I ((List.range i).map (Zj S0 tail) ++ [Zj S0 tail i]) Hs2) ∨ (bb = false ∧ X ((List.range i).map (Zj S0 tail) ++ [Zj S0 tail i]) Hs2)) := by
  grind
 refine ⟨_, rfl, ?_⟩; intro a S; have M := M2; clear M2
 replace M := M.c_
 refine Yq k_ (by rintro _ _ ⟨⟨_, h⟩, -⟩; cases h) ?_
 refine qG [1, 1] S ?_; intro a S
 refine Js (t := 31) S rfl ?_ ?_
 ·intro h31 S
  refine gp [[0,0,0,1],[2]] ?_; intro a S
  refine Ya S rfl ?_
  refine wpIn_ret ?_
  refine gp [[4]] ?_; intro a S
  refine JV S rfl ?_
  refine ⟨⟨_, rfl⟩, Hs2, M.drop 0, .inr ⟨_, _, _, hx, ?_⟩⟩
  grind
 intro h31 S
 refine gp [[0,1,1,1],[2]] ?_; intro a S
 refine Js (t := 34) S rfl ?_ ?_
 ·intro h34 S
  refine Ya S rfl ?_
  refine wpIn_ret ?_
  grind
 intro h34 S
 refine Vc S rfl ?_
 refine wpIn_skip ?_
 refine Jy (Jn (Jq k_ (by rintro _ _ ⟨⟨_, h⟩, -⟩; cases h) ?_))
 refine gp [[901],[0,1],[2]] ?_; intro a S
 replace M := M.drp 0
 have hI2 : I ((List.range (i + 1)).map (Zj S0 tail)) Hs2 := by
  grind [JbA]
 exact ⟨24 - (i + 1), by omega, i + 1, Hs2, hlt2, rfl, hI2, S.sub _ rfl, M⟩
theorem EU (b : Nat) (tail : Int) (w : World) : CT 234 #[p_ b, .int .i64 tail] w fun e w' => ∃ bf bd, e = .returned (.func (.func 297) #[] #[p_ bf, p_ bd]) ∧ Mem w w' [.blk bf #[.int .i64 tail] 3, .blk bd #[p_ b] 75] := by
 have M := Mem.start w
 refine qI Tryz.func234 6 ?_; intro a S
 refine nxD (VA S M rfl rfl rfl #[_] rfl ?_); intro a w1 bD S M hB
 refine VA S M rfl rfl rfl #[_] rfl ?_; intro a w2 bF S M hB
 refine qG [1] S ?_; intro a S
 refine nxA (qY S (Jx (fs := []) (cs := [.tmp 3, .tmp 2]) S rfl rfl) ?_); intro a S
 refine gp [[0,1],[3],[930]] ?_
 grind
def DS.new : DS := ⟨fun k => YC (List.replicate 2176 0) k, fun _ => [], false⟩
def Kr : List Value := Jh (List.replicate 2176 0) ++ [.map none, .bool false]
theorem JcN : Kr.length = 2178 := by grind [Kr, Jw]
theorem JcM (m : Nat) : Jt Kr 2176 [.map (some m)] = VB (List.replicate 2176 0) m false := by
 have e := jy (A := Jh (List.replicate 2176 0)) (B := [Value.map none]) (C := [Value.bool false]) (us := [Value.map (some m)]) rfl
 grind [Jw, Kr, VB]
set_option maxRecDepth 100000 in
theorem JhR (w : World) : CT 19 #[] w fun e w' => ∃ b E, e = .returned (p_ b) ∧ DkE b DS.new E ∧ Mem w w' E := by
 have M := Mem.start w
 refine qI Tryz.func19 4 ?_
 refine gp [[2,1],[4]] ?_; intro a S
 refine Zh (κ := Int) S M rfl rfl ?_; intro a w1 bM0 S M hB
 refine qY S (JW (ps := [(1, .tmp 1)]) (pl := [(0, 2176), (2176, 1), (2177, 1)]) (z := Kr) (cs := Jt Kr 2176 [.map (some bM0)]) S k_ rfl (vT rfl rfl rfl (by grind [JcN]))) ?_; intro a S
 refine VA S M rfl rfl rfl _ rfl ?_; intro a w2 bD S M hB
 refine gp [[0,1],[3],[930]] ?_
 rw [JcM] at M
 exact ⟨bD, _, rfl, ⟨⟨bD, bM0, 0, [], List.replicate 2176 0, false, []⟩, rfl, ⟨by grind, ZS _, .nil, fun _ => rfl, fun s hs => (by cases hs)⟩, rfl, rfl⟩, M⟩
abbrev JhV (p : Int × Int) : List Value := [.int .i64 p.1, .int .i64 p.2]
abbrev Jks (l : List (Int × Int)) : List Value := l.flatMap JhV
def JiP (secs : List Sec) (p : Int × Int) : Option RB := match ZD secs p.1 with
 | some s => if 1 ≤ p.2 then s.ws[(p.2 - 1).toNat]? else none
 | none => none
def JgW (secs : List Sec) : List (Int × Int) → List Int → List (Nat × RB)
 | [], _ => []
 | p :: l, told => if (0 ≤ p.1 ∧ p.1 < 34) ∧ p.1 ∉ told then (match JiP secs p with
    | some r => [(p.1.toNat, r)]
    | none => []) ++ JgW secs l (p.1 :: told) else JgW secs l told
abbrev JkZ (x : Nat × RB) : List Value := [.int .i64 (x.1 : Int), x.2.val]
def Jkp (told : List Int) : List Value := (List.range 34).map fun i : Nat => .bool (decide ((i : Int) ∈ told))
def JbM (c : Int → List (List UInt8)) : List (Int × Int) → List Int → List (Nat × List UInt8)
 | [], _ => []
 | p :: l, told => if (0 ≤ p.1 ∧ p.1 < 34) ∧ p.1 ∉ told then (match if 1 ≤ p.2 then (c p.1)[(p.2 - 1).toNat]? else none with
    | some r => [(p.1.toNat, r)]
    | none => []) ++ JbM c l (p.1 :: told) else JbM c l told
def Jj9 (dur : Nat → List UInt8) (l : List (Nat × List UInt8)) : Nat → List UInt8 := l.foldl (fun d x j => if j = x.1 then x.2 else d j) dur
def DS.crash (S : DS) (plan : List (Int × Int)) : DS := ⟨Jj9 S.dur (JbM S.cache plan []), fun _ => [], true⟩
end Go.Proofs.YtocppoflhllelaaGreat
