/-
  What PartStrict rests on, part 8.
-/
import Derived.Test.YtocppoflhllelaaGreatP3
namespace Go.Proofs.YtocppoflhllelaaGreat
open Go.RowKit Go.Sort
def ZC (r : BitVec 32) : BitVec 32 := if (r &&& 1#32) == 1#32 then (r >>> 1) ^^^ 3988292384#32 else r >>> 1
def VE : Nat → BitVec 32 → BitVec 32
 | 0, r => r
 | k + 1, r => ZC (VE k r)
theorem Jfk (r : BitVec 32) (w : World) : CQ 351 #[.int .u32 (r.toNat : Int)] w (.int .u32 ((ZC r).toNat : Int)) := by
 have M := Mem.start w
 refine qI Tryz.func351 11 ?_
 refine gp [[2,1],[5,1]] ?_; intro a S
 refine qY S (Ks (q := 1#32) S rfl rfl) ?_; intro a S
 refine qY S (JaD (q := 1#32) S rfl rfl) ?_; intro a S
 refine nxC (Jm (t := 5) S rfl ?_ ?_)
 ·intro h5 S
  refine gp [[5,1]] ?_; intro a S
  refine qY S (VY (k := 1) S rfl rfl) ?_
  refine gp [[0,1],[3],[930]] ?_
  refine ⟨?_, M.below⟩; grind [ZC]
 intro h5 S
 refine gp [[3,1]] ?_; intro a S
 refine qY S (VY (k := 1) S rfl rfl) ?_; intro a S
 refine qY S (yp (q := 3988292384#32) S rfl rfl) ?_
 refine gp [[0,1],[4],[930]] ?_
 refine ⟨?_, M.below⟩; grind [ZC]
def htab (k : Nat) : List Value := (List.range 16).map fun i => .int .u32 (((if i < k then VE 4 (BitVec.ofNat 32 i) else 0#32) : BitVec 32).toNat : Int)
theorem JfY (k : Nat) : (htab k).set k (.int .u32 ((VE 4 (BitVec.ofNat 32 k)).toNat : Int)) = htab (k + 1) := by
 apply List.ext_getElem?
 grind [htab]
theorem JbX (w : World) : CQ 349 #[] w (.agg (htab 16).toArray) := by
 have M := Mem.start w
 refine qI Tryz.func349 21 ?_; intro a S
 refine nxD (qN S M Jgs ?_); intro a w1 b1 S M hB
 refine gp [[4,1],[4]] ?_; intro a S
 refine qN S M Jgs ?_; intro a w2 b2 S M hB
 refine gp [[5,1],[3]] ?_; intro a S
 refine Jc (fun m a w' => ∃ (k : Nat), k ≤ 16 ∧ m = 16 - k ∧ Jk 21 a [(0, p_ b1), (1, .func (.func 351) #[] #[]), (2, p_ b2), (5, .int .i64 (k : Int))] ∧ Mem w w' [.blk b2 (htab k).toArray 412, .blk b1 (htab 0).toArray 412]) (16) ?_ ?_
 ·skip
  exact ⟨0, by omega, rfl, S.sub _ rfl, M⟩
 intro m a wl
 rintro ⟨k, hk, rfl, S, M⟩
 refine gq [[2,1],[3],[943,6]] ?_ ?_
 ·intro a h6 S
  refine gp [[8]] ?_; intro a S
  obtain rfl : k = 16 := by omega
  refine qY S (Ja (cs := htab 16) S k_ rfl rfl (M.cellsAt 0 rfl JC)) ?_
  refine go [[900,1],[3]] ?_; intro a w5 S M
  refine Vb S rfl (Y8 (cs := htab 16) k_ rfl rfl (M.cellsAt 1 rfl JC)) ?_
  exact ⟨rfl, M.below⟩
 intro a h6 S
 refine gp [[7,1,1],[4,1]] ?_; intro a S
 refine qY S (Dm S rfl k_ k_) ?_
 refine gp [[0,1],[5,1],[3]] ?_; intro a S
 refine Jc (fun m a w' => ∃ (j : Nat), j ≤ 4 ∧ m = 4 - j ∧ Jk 21 a [(0, p_ b1), (1, .func (.func 351) #[] #[]), (2, p_ b2), (3, .int .i64 (k : Int)), (5, .int .i64 (k : Int)), (4, .int .u32 ((VE j (BitVec.ofNat 32 k)).toNat : Int)), (10, .int .i64 (j : Int))] ∧ Mem w w' [.blk b2 (htab k).toArray 412, .blk b1 (htab 0).toArray 412]) (4) ?_ ?_
 ·skip
  exact ⟨0, by omega, rfl, S.sub _ rfl, M⟩
 intro m a wl
 rintro ⟨j, hj, rfl, S, M⟩
 refine gq [[2,1],[3],[940,11]] ?_ ?_
 ·intro a h11 S
  refine gp [[6,1,1]] ?_; intro a S
  refine DG (xs := [.tmp 13]) S (Ji Tryz.func351 d_ rfl) rfl rfl rfl rfl (Jfk _ _) ?_
  rintro _ w3 ⟨rfl, hK⟩; replace M := M.grow hK
  refine gp [[0,1],[4],[901],[0,1],[2]] ?_; intro a S
  exact ⟨4 - (j + 1), by omega, j + 1, by omega, rfl, S.sub _ rfl, M⟩
 intro a h11 S
 refine gp [[7,1,1],[906,16,1]] ?_; intro a S
 refine Ju (sz := 1) (us := [_]) S M 0 rfl k_ rfl rfl rfl rfl rfl rfl (by grind [htab]) ?_; intro w4 M
 replace M := M.s_
 refine gp [[4],[901],[0,1],[2]] ?_; intro a S
 obtain rfl : j = 4 := by omega
 exact ⟨16 - (k + 1), by omega, k + 1, by omega, rfl, S.sub _ rfl, by rw [← JfY]; exact M⟩
def KB (r : BitVec 32) : BitVec 32 := VE 4 (BitVec.ofNat 32 (r &&& 15#32).toNat) ^^^ (r >>> 4)
def De (r : BitVec 32) (b : UInt8) : BitVec 32 := KB (KB (r ^^^ BitVec.ofInt 32 (b.toNat : Int)))
def zj (r : BitVec 32) (bs : List UInt8) : BitVec 32 := bs.foldl De r
def jv (bs : List UInt8) : BitVec 32 := ~~~ zj 4294967295#32 bs
theorem Jhe (r : BitVec 32) : (r &&& 15#32).toNat < 16 := by
 grind [Nat.and_le_right]
theorem Ej (i : Nat) (h : i < 16) : (htab 16).toArray[i]? = some (.int .u32 ((VE 4 (BitVec.ofNat 32 i)).toNat : Int)) := by
 simp [htab, h]
theorem JhD (r : BitVec 32) (v : Value) (bs : List UInt8) (w : World) (hv : Bs 0 w.heap.size w v bs) : CQ 335 #[.int .u32 (r.toNat : Int), v] w (.int .u32 ((zj r bs).toNat : Int)) := by
 have M := Mem.start w
 have hl := hv.2.1
 unfold maxLen at hl
 refine qI Tryz.func335 36 ?_
 refine gp [[2,1],[4]] ?_; intro a S
 refine qK S rfl (JbX _) M ?_; intro a w1 S hK M
 refine qN S M Jgs ?_; intro a w2 b1 S M hB
 refine go [[900,0],[5,1],[3]] ?_; intro a w3 S M
 refine Jc (fun m a w' => ∃ (k : Nat), k ≤ bs.length ∧ m = bs.length - k ∧ Jk 36 a [(0, .int .u32 ((zj r (bs.take k)).toNat : Int)), (1, v), (5, p_ b1), (6, .int .i64 (k : Int))] ∧ Mem w w' [.blk b1 (htab 16).toArray 412]) (bs.length) ?_ ?_
 ·skip
  exact ⟨0, by omega, rfl, S.sub _ rfl, M⟩
 intro m a wl
 rintro ⟨k, hk, rfl, S, M⟩
 refine gq [[3,1,1],[908,5],[0,1],[2],[943,11]] ?_ ?_
 ·intro a h11 S
  refine gp [[8,1,1],[3],[930]] ?_
  obtain rfl : k = bs.length := by omega
  rw [List.take_length]
  exact ⟨rfl, M.below⟩
 intro a h11 S
 refine gp [[7]] ?_; intro a S
 have hk' : k < bs.length := by omega
 obtain ⟨x, hx⟩ : ∃ x, bs[k]? = some x := ⟨bs[k], List.getElem?_eq_getElem hk'⟩
 refine qY S (Vz S rfl) ?_
 refine gp [[0,1,1],[907,5,1]] ?_; intro a S
 refine qY S (Jf S k_ rfl ((M.arg hv).byte hx)) ?_; intro a S
 refine qY S (Dm S rfl k_ k_) ?_; intro a S
 refine qY S (yp S rfl rfl) ?_
 refine gp [[0,1],[4,1]] ?_; intro a S
 refine qY S (Ks (q := 15#32) S rfl rfl) ?_; intro a S
 have h15 := Jhe (zj r (List.take k bs) ^^^ BitVec.ofInt 32 ↑x.toNat)
 refine gp [[906,16,1]] ?_; intro a S
 refine qY S (Jf S k_ rfl (M.cell 0 rfl (Ej _ h15))) ?_
 refine gp [[0,1]] ?_; intro a S
 refine qY S (VY (k := 4) S rfl rfl) ?_; intro a S
 refine qY S (yp S rfl rfl) ?_
 refine gp [[0,1],[3,1]] ?_; intro a S
 refine qY S (Ks (q := 15#32) S rfl rfl) ?_; intro a S
 have h15' := Jhe (KB (zj r (List.take k bs) ^^^ BitVec.ofInt 32 ↑x.toNat))
 unfold KB at h15'
 refine gp [[906,16,1]] ?_; intro a S
 refine qY S (Jf S k_ rfl (M.cell 0 rfl (Ej _ h15'))) ?_
 refine gp [[0,1]] ?_; intro a S
 refine qY S (VY (k := 4) S rfl rfl) ?_; intro a S
 refine qY S (yp S rfl rfl) ?_
 refine gp [[0,1],[4,1],[901],[0,1],[2]] ?_; intro a S
 refine ⟨bs.length - (k + 1), by omega, k + 1, by omega, rfl, ?_, M⟩
 have e : zj r (bs.take (k + 1)) = De (zj r (bs.take k)) x := by
  rw [List.take_succ_eq_append_getElem hk', zj, List.foldl_append]
  rw [List.getElem?_eq_getElem hk'] at hx
  rw [← Option.some.inj hx]; rfl
 rw [e]
 exact S.sub _ rfl
theorem U6 (v : Value) (bs : List UInt8) (w : World) (hv : Bs 0 w.heap.size w v bs) : CQ 294 #[v] w (.int .u32 ((jv bs).toNat : Int)) := by
 have M := Mem.start w
 refine qI Tryz.func294 6 ?_
 refine gp [[2,1],[4,1]] ?_; intro a S
 refine qK S rfl (JhD 4294967295#32 v bs _ (M.argW hv)) M ?_; intro a w1 S hK M
 refine qY S (GK S rfl) ?_
 refine gp [[0,1],[3],[930]] ?_
 exact ⟨rfl, M.below⟩
def DO (r : BitVec 32) (b : UInt8) : BitVec 32 := VE 8 (r ^^^ BitVec.ofInt 32 (b.toNat : Int))
theorem XB (r : BitVec 32) (b : UInt8) (w : World) : CQ 225 #[.int .u32 (r.toNat : Int), .int .u8 (b.toNat : Int)] w (.int .u32 ((DO r b).toNat : Int)) := by
 have M := Mem.start w
 refine qI Tryz.func225 23 ?_
 refine gp [[2,1],[4,1,1]] ?_; intro a S
 refine qY S (Dm S rfl k_ k_) ?_; intro a S
 refine qY S (yp S rfl rfl) ?_
 refine gp [[0,1],[5,1],[3]] ?_; intro a S
 refine Jc (fun m a w' => ∃ (k : Nat), k ≤ 8 ∧ m = 8 - k ∧ Jk 23 a [(0, .int .u32 ((VE k (r ^^^ BitVec.ofInt 32 (b.toNat : Int))).toNat : Int)), (5, .int .i64 (k : Int))] ∧ Mem w w' []) (8) ?_ ?_
 ·skip
  exact ⟨0, by omega, rfl, S.sub _ rfl, M⟩
 intro m a wl
 rintro ⟨k, hk, rfl, S, M⟩
 refine gq [[3,1,1],[2],[943,11]] ?_ ?_
 ·intro a h11 S
  refine gp [[8,1,1],[3],[930]] ?_
  obtain rfl : k = 8 := by omega
  exact ⟨rfl, M.below⟩
 intro a h11 S
 refine gp [[7,1]] ?_; intro a S
 refine qY S (Ks (q := 1#32) S rfl rfl) ?_; intro a S
 refine qY S (JaD (q := 1#32) S rfl rfl) ?_; intro a S
 refine nxC (Jm (t := 16) S rfl ?_ ?_)
 ·intro h16 S
  refine gp [[2,1]] ?_; intro a S
  refine qY S (VY (k := 1) S rfl rfl) ?_
  refine gp [[0,1],[4,1],[901],[0,1],[2]] ?_; intro a S
  refine ⟨8 - (k + 1), by omega, k + 1, by omega, rfl, ?_, M⟩
  have e : VE (k + 1) (r ^^^ BitVec.ofInt 32 (b.toNat : Int)) = ZC (VE k (r ^^^ BitVec.ofInt 32 (b.toNat : Int))) := rfl
  rw [e]
  unfold ZC
  simp only [h16, if_false, Bool.false_eq_true]
  exact S.sub _ rfl
 intro h16 S
 refine gp [[2,1]] ?_; intro a S
 refine qY S (VY (k := 1) S rfl rfl) ?_; intro a S
 refine qY S (yp (q := 3988292384#32) S rfl rfl) ?_
 refine gp [[0,1],[4,1],[901],[0,1],[2]] ?_; intro a S
 refine ⟨8 - (k + 1), by omega, k + 1, by omega, rfl, ?_, M⟩
 have e : VE (k + 1) (r ^^^ BitVec.ofInt 32 (b.toNat : Int)) = ZC (VE k (r ^^^ BitVec.ofInt 32 (b.toNat : Int))) := rfl
 rw [e]
 unfold ZC
 simp only [h16, if_true]
 exact S.sub _ rfl
def yG (r : BitVec 32) (bs : List UInt8) : BitVec 32 := bs.foldl DO r
theorem EZ (s : BitVec 32) (v : Value) (bs : List UInt8) (w : World) (hv : Bs 0 w.heap.size w v bs) : CQ 143 #[.int .u32 (s.toNat : Int), v] w (.int .u32 ((~~~ yG (~~~ s) bs).toNat : Int)) := by
 have M := Mem.start w
 have hl := hv.2.1
 unfold maxLen at hl
 refine qI Tryz.func143 23 ?_
 refine gp [[2,1],[4,1]] ?_; intro a S
 refine qY S (GK S rfl) ?_
 refine gp [[0,1],[5,1],[3]] ?_; intro a S
 refine Jc (fun m a w' => ∃ (k : Nat), k ≤ bs.length ∧ m = bs.length - k ∧ Jk 23 a [(1, v), (5, .int .u32 ((yG (~~~ s) (bs.take k)).toNat : Int)), (6, .int .i64 (k : Int))] ∧ Mem w w' []) (bs.length) ?_ ?_
 ·skip
  exact ⟨0, by omega, rfl, S.sub _ rfl, M⟩
 intro m a wl
 rintro ⟨k, hk, rfl, S, M⟩
 refine gq [[3,1,1],[908,5],[0,1],[2],[943,12]] ?_ ?_
 ·intro a h12 S
  refine gp [[8,1]] ?_; intro a S
  refine qY S (GK S rfl) ?_
  refine gp [[0,1],[3],[930]] ?_
  obtain rfl : k = bs.length := by omega
  rw [List.take_length]
  exact ⟨rfl, M.below⟩
 intro a h12 S
 refine gp [[6]] ?_; intro a S
 have hk' : k < bs.length := by omega
 obtain ⟨x, hx⟩ : ∃ x, bs[k]? = some x := ⟨bs[k], List.getElem?_eq_getElem hk'⟩
 refine qY S (Vz S rfl) ?_
 refine gp [[0,1,1],[907,5,1]] ?_; intro a S
 refine qY S (Jf S k_ rfl ((M.arg hv).byte hx)) ?_; intro a S
 refine qK S rfl (XB _ x _) M ?_; intro a w1 S hK M
 refine gp [[0,1],[4,1],[901],[0,1],[2]] ?_; intro a S
 refine ⟨bs.length - (k + 1), by omega, k + 1, by omega, rfl, ?_, M⟩
 have e : yG (~~~ s) (bs.take (k + 1)) = DO (yG (~~~ s) (bs.take k)) x := by
  rw [List.take_succ_eq_append_getElem hk', yG, List.foldl_append]
  rw [List.getElem?_eq_getElem hk'] at hx
  rw [← Option.some.inj hx]; rfl
 rw [e]
 exact S.sub _ rfl
/-! ### one sum -/
theorem yV (r : BitVec 32) : ZC r = (r >>> 1) ^^^ (if r.getLsbD 0 then 3988292384#32 else 0#32) := by
 have h : ((r &&& 1#32) == 1#32) = r.getLsbD 0 := by
  have e : r &&& 1#32 = if r.getLsbD 0 then 1#32 else 0#32 := by
   grind
  grind
 grind [ZC]
theorem Jdg (x y : BitVec 32) : ZC (x ^^^ y) = ZC x ^^^ ZC y := by
 rw [yV, yV x, yV y, BitVec.ushiftRight_xor_distrib, BitVec.getLsbD_xor]
 generalize x >>> 1 = p
 generalize y >>> 1 = q
 generalize 3988292384#32 = T
 cases x.getLsbD 0 <;> cases y.getLsbD 0
 ·simp
 ·grind
 ·grind
 grind [BitVec.xor_assoc]
theorem WN : ∀ (k : Nat) (x y : BitVec 32), VE k (x ^^^ y) = VE k x ^^^ VE k y
 | 0, _, _ => rfl
 | k + 1, x, y => by simp only [VE, WN k, Jdg]
theorem Jbi {r : BitVec 32} (h : r.getLsbD 0 = false) : ZC r = r >>> 1 := by grind [yV]
theorem QJ : ∀ (k : Nat) (r : BitVec 32), (∀ i, i < k → r.getLsbD i = false) → VE k r = r >>> k
 | 0, r, _ => by simp [VE]
 | k + 1, r, h => by
   rw [VE, QJ k r (fun i hi => h i o_), Jbi, ← BitVec.shiftRight_add]
   grind
theorem Jik (r : BitVec 32) : BitVec.ofNat 32 r.toNat = r := by simp
theorem El (r : BitVec 32) : KB r = VE 4 r := by
 have hsplit : r = (r &&& 15#32) ^^^ (r &&& 4294967280#32) := by
  apply BitVec.eq_of_getLsbD_eq
  intro i hi
  have : ((15#32).getLsbD i ^^ (4294967280#32).getLsbD i) = true := by
   have key : ∀ j : Fin 32, ((15#32).getLsbD j ^^ (4294967280#32).getLsbD j) = true := by decide
   exact key ⟨i, hi⟩
  grind
 have hhigh : VE 4 (r &&& 4294967280#32) = (r &&& 4294967280#32) >>> 4 := QJ 4 _ (fun i hi => by
  have key : ∀ j : Fin 4, (4294967280#32).getLsbD j = false := by decide
  rw [BitVec.getLsbD_and, key ⟨i, hi⟩]; simp)
 have hsh : (r &&& 4294967280#32) >>> 4 = r >>> 4 := by
  apply BitVec.eq_of_getLsbD_eq
  intro i hi
  rw [BitVec.getLsbD_ushiftRight, BitVec.getLsbD_ushiftRight, BitVec.getLsbD_and]
  rcases Nat.lt_or_ge (4 + i) 32 with h | h
  ·have key : ∀ j : Fin 28, (4294967280#32).getLsbD (4 + j) = true := by decide
   rw [key ⟨i, by omega⟩]; simp
  grind
 grind [KB, WN]
theorem Jdc (x y : Nat) (r : BitVec 32) : VE (x + y) r = VE x (VE y r) := by
 induction x with
 | zero => simp [VE]
 | succ x ih => grind [VE]
theorem Jgx (r : BitVec 32) (b : UInt8) : De r b = DO r b := by
 unfold De DO
 rw [El, El, ← Jdc]
theorem JhE (r : BitVec 32) (bs : List UInt8) : zj r bs = yG r bs := by
 unfold zj yG
 congr 1
 grind [Jgx]
theorem QY (v : Value) (bs : List UInt8) (w : World) (hv : Bs 0 w.heap.size w v bs) : CQ 85 #[v] w (.int .u32 ((jv bs).toNat : Int)) := by
 have M := Mem.start w
 refine qI Tryz.func85 5 ?_
 refine gp [[2,1],[4,1]] ?_; intro a S
 refine qK S rfl (EZ 0#32 v bs _ (M.argW hv)) M ?_; intro a w1 S hK M
 refine gp [[0,1],[3],[930]] ?_
 grind [jv, JhE]
section
variable {bs : List UInt8}
def Y4 (s : BitVec 32) : List UInt8 := [V4 (s.toNat : Int), V4 ((s >>> 8).toNat : Int), V4 ((s >>> 16).toNat : Int), V4 ((s >>> 24).toNat : Int)]
def VQ (bs : List UInt8) : List UInt8 := bs ++ Y4 (jv bs)
def Yj (bs : List UInt8) : Prop := ∃ x, bs = VQ x
theorem DB (s : BitVec 32) (j : Nat) (h : j < 4) : (Y4 s)[j]? = some (V4 ((s >>> (8 * j)).toNat : Int)) := by
 match j, h with
 | 0, _ => simp [Y4]
 | 1, _ => rfl
 | 2, _ => rfl
 | 3, _ => rfl
theorem Jdm : ∀ bs : List UInt8, 4 ≤ bs.length → ∃ x cs : List UInt8, bs = x ++ cs ∧ cs.length = 4 := fun bs h =>
 ⟨bs.take (bs.length - 4), bs.drop (bs.length - 4), (List.take_append_drop _ _).symm, by grind⟩
theorem Yl {x cs : List UInt8} (h : cs.length = 4) : Yj (x ++ cs) ↔ cs = Y4 (jv x) := by
 constructor
 ·rintro ⟨y, e⟩
  have hl : x.length = y.length := by have := congrArg List.length e; grind [VQ, Y4]
  obtain ⟨rfl, e2⟩ := List.append_inj e hl
  exact e2
 ·intro e; exact ⟨x, by rw [e]; rfl⟩
theorem Q2 (h : Yj bs) : 4 ≤ bs.length := by obtain ⟨x, rfl⟩ := h; simp [VQ, Y4]
theorem K4 (v : Value) (bs : List UInt8) (w : World) (hv : Bs 0 w.heap.size w v bs) (hb : bs.length ≤ 70000000000000) : CT 338 #[v] w fun e w' => ∃ v', e = .returned v' ∧ Fresh w w' 5 1 v' (VQ bs).length (Jh (VQ bs)) := by
 have M := Mem.start w
 have hcap := hv.cap
 refine qI Tryz.func338 26 ?_
 refine gp [[2,1],[4,1],[908,5],[0,1],[4,1]] ?_; intro a S
 refine qK S rfl (U6 v bs _ (M.argW hv)) M ?_; intro a w1 S hK M
 refine gp [[0,1],[4,1,1,1]] ?_; intro a S
 refine qY S (yi (e := 5) (sz := 1) S k_ rfl (M.arg hv) rfl rfl o_) ?_
 refine gp [[0,1]] ?_; intro a S
 refine qY S (Zg S rfl k_ k_) ?_
 refine gp [[0,1]] ?_; intro a S
 refine qY S (VY (k := 8) S rfl rfl) ?_; intro a S
 refine qY S (Zg S rfl k_ k_) ?_
 refine gp [[0,1]] ?_; intro a S
 refine qY S (VY (k := 16) S rfl rfl) ?_; intro a S
 refine qY S (Zg S rfl k_ k_) ?_
 refine gp [[0,1]] ?_; intro a S
 refine qY S (VY (k := 24) S rfl rfl) ?_; intro a S
 refine qY S (Zg S rfl k_ k_) ?_; intro a S
 refine JG (ps := [(0, .tmp 14), (1, .tmp 17), (2, .tmp 20), (3, .tmp 23)]) (e := 5) (sz := 1) (zl := [.int .u8 0, .int .u8 0, .int .u8 0, .int .u8 0]) (cs := [_, _, _, _]) S M rfl rfl k_ rfl (rfl) ?_; intro a w2 b1 S M hB
 have hX := (M.arg hv).cutB (i := 0) (j := bs.length) (mx := bs.length) (Nat.zero_le _) (Nat.le_refl _) (Nat.le_refl _) hcap.1
 rw [show (bs.drop 0).take (bs.length - 0) = bs by simp] at hX
 rw [Int.toNat_natCast] at S
 have h4 : Rd b1 (b1 + 1) w2 1 (.slice (some ⟨b1, 0, none⟩) 4 4) 4 (Jh (Y4 (jv bs))) := Rd.of_blk (M.blk 0 rfl) rfl (Nat.le_refl _) (by grind [maxLen]) rfl
 have hc0 : Yb (jg v 0 bs.length bs.length 1) < bs.length + 4 := by
  have : Yb (jg v 0 bs.length bs.length 1) = bs.length := by obtain ⟨ad, cap, rfl, _, _⟩ := hv.form; rfl
  omega
 refine QN (e := 5) (sz := 1) (by_ := 1) (zc := Ym) S M rfl rfl k_ rfl rfl rfl (hX) (hc0) (h4) o_ (by grind [maxLen]) ?_; intro a w3 vA loA hiA S M
 refine gp [[0,1],[3],[930]] ?_
 exact ⟨_, rfl, by have := M.fresh 0 rfl; rwa [← Vv, show bs.length + 4 = (bs ++ Y4 (jv bs)).length by simp [Y4]] at this⟩
theorem EX (v : Value) (bs : List UInt8) (w : World) (hv : Bs 0 w.heap.size w v bs) (hb : bs.length ≤ 70000000000000) : CT 46 #[v] w fun e w' => ∃ v', e = .returned v' ∧ Fresh w w' 5 1 v' (VQ bs).length (Jh (VQ bs)) := by
 have M := Mem.start w
 refine qI Tryz.func46 24 ?_
 refine gp [[2,1],[4,1]] ?_; intro a S
 refine qK S rfl (QY v bs _ (M.argW hv)) M ?_; intro a w1 S hK M
 refine gp [[0,1],[4,1],[4]] ?_; intro a S
 replace M := M.rowNil 5 1
 refine qY S (Vz S rfl) ?_
 refine gp [[0,1]] ?_; intro a S
 refine JI (e := 5) (sz := 1) (by_ := 1) (zc := Ym) S M 0 rfl rfl k_ rfl d_ rfl rfl rfl (M.arg hv) (JA _) o_ (by grind [maxLen]) ?_; intro a w2 vA loA hiA S M
 refine gp [[0,1],[4,1,1]] ?_; intro a S
 refine qY S (Zg S rfl k_ k_) ?_
 refine gp [[0,1]] ?_; intro a S
 refine qY S (VY (k := 8) S rfl rfl) ?_; intro a S
 refine qY S (Zg S rfl k_ k_) ?_
 refine gp [[0,1]] ?_; intro a S
 refine qY S (VY (k := 16) S rfl rfl) ?_; intro a S
 refine qY S (Zg S rfl k_ k_) ?_
 refine gp [[0,1]] ?_; intro a S
 refine qY S (VY (k := 24) S rfl rfl) ?_; intro a S
 refine qY S (Zg S rfl k_ k_) ?_; intro a S
 refine JG (ps := [(0, .tmp 12), (1, .tmp 15), (2, .tmp 18), (3, .tmp 21)]) (e := 5) (sz := 1) (zl := [.int .u8 0, .int .u8 0, .int .u8 0, .int .u8 0]) (cs := [_, _, _, _]) S M rfl rfl k_ rfl (rfl) ?_; intro a w3 b1 S M hB
 have h4 : Rd b1 (b1 + 1) w3 1 (.slice (some ⟨b1, 0, none⟩) 4 4) 4 (Jh (Y4 (jv bs))) := Rd.of_blk (M.blk 0 rfl) rfl (Nat.le_refl _) (by grind [maxLen]) rfl
 refine JI (e := 5) (sz := 1) (by_ := 1) (zc := Ym) S M 1 rfl rfl k_ rfl d_ rfl rfl rfl (h4) (JA _) o_ (by grind [maxLen]) ?_; intro a w4 vA loA hiA S M
 refine gp [[0,1],[3],[930]] ?_
 exact ⟨_, rfl, by have := M.fresh 0 rfl; rwa [Nat.zero_add, List.nil_append, ← Vv, show bs.length + 4 = (bs ++ Y4 (jv bs)).length by simp [Y4]] at this⟩
open Classical in
noncomputable def vH (bs : List UInt8) : Bool := decide (Yj bs)
theorem Gf (h : Yj bs) : vH bs = true := by grind [vH]
theorem vG (h : ¬ Yj bs) : vH bs = false := by grind [vH]
def Qw (bs : List UInt8) (w : World) (e : Ending) (w' : World) : Prop :=
 ∃ v', e = .returned (.tuple #[v', .bool (vH bs)]) ∧ Below w.heap.size w w' ∧ (Yj bs → Fresh w w' 5 1 v' (bs.take (bs.length - 4)).length (Jh (bs.take (bs.length - 4)))) ∧ (¬ Yj bs → v' = .slice none 0 0)
theorem YU {w w' : World} {H : List Ent} (M : Mem w w' H) (h : ¬ Yj bs) : Qw bs w (.returned (.tuple #[.slice none 0 0, .bool false])) w' :=
 ⟨_, by rw [vG h], M.below, fun h' => absurd h' h, fun _ => rfl⟩
theorem D5 (v : Value) (bs : List UInt8) (w : World) (hv : Bs 0 w.heap.size w v bs) (hb : bs.length ≤ 70000000000000) : CT 230 #[v] w (Qw bs w) := by
 have M := Mem.start w
 have hcap := hv.cap
 refine qI Tryz.func230 38 ?_
 refine gq [[2,1,1],[4,1],[908,5],[901],[0,1],[5,1,1],[2],[940,12]] ?_ ?_
 ·intro a h12 S
  refine gp [[3,1,1],[4],[931]] ?_
  grind [YU, Q2]
 intro a h12 S
 refine gp [[5]] ?_; intro a S
 obtain ⟨x, cs, rfl, hcs⟩ := Jdm bs o_
 have hlx : (x ++ cs).length = x.length + 4 := by grind
 rw [show ((x ++ cs).length : Int) - 4 = (x.length : Int) by omega] at S
 have hX := hv.cutB (i := 0) (j := x.length) (mx := x.length) (Nat.zero_le _) o_ (Nat.le_refl _) o_
 rw [show ((x ++ cs).drop 0).take (x.length - 0) = x by simp] at hX
 refine qY S (Vz S rfl) ?_
 refine gp [[0,1,1]] ?_; intro a S
 refine qY S (yi (e := 5) (sz := 1) S k_ rfl (M.arg hv) rfl rfl o_) ?_
 refine gp [[0,1],[4]] ?_; intro a S
 rw [Int.toNat_natCast] at S
 refine qY S (Vz S rfl) ?_; intro a S
 refine qK S rfl (U6 _ x _ (M.argW hX)) M ?_; intro a w1 S hK M
 refine gp [[0,1],[5,1],[3]] ?_; intro a S
 refine Jc (fun m a w' => ∃ (j : Nat), j ≤ 4 ∧ m = 4 - j ∧ Jk 38 a [(0, v), (4, .int .i64 (x.length : Int)), (5, jg v 0 x.length x.length 1), (6, .int .u32 ((jv x).toNat : Int)), (19, .int .i64 (j : Int))] ∧ Mem w w' [] ∧ ∀ i, i < j → cs[i]? = (Y4 (jv x))[i]?) (4) ?_ ?_
 ·skip
  exact ⟨0, Nat.zero_le _, rfl, S.sub _ rfl, M, fun i hi => by omega⟩
 intro m a wl
 rintro ⟨j, hj, rfl, S, M, hsame⟩
 refine gq [[2,1],[3],[943,20]] ?_ ?_
 ·intro a h20 S
  refine gp [[8]] ?_; intro a S
  obtain rfl : j = 4 := by omega
  have hok : Yj (x ++ cs) := (Yl hcs).2 (by
   apply List.ext_getElem?
   intro i
   rcases Nat.lt_or_ge i 4 with h | h
   ·exact hsame i h
   ·rw [List.getElem?_eq_none o_, List.getElem?_eq_none (by simp [Y4]; omega)])
  refine jJ (e := 5) (sz := 1) (by_ := 1) (zc := Ym) S M rfl rfl k_ ?_; intro a w3 b1 S M hB
  refine qG [1] S ?_; intro a S
  replace M := M.toRow (sz := 1) (m := 0) (cap := 0) (xs := []) 0 rfl rfl (Nat.le_refl _) (Nat.zero_le _) rfl rfl
  refine JI (e := 5) (sz := 1) (by_ := 1) (zc := Ym) S M 0 rfl rfl k_ rfl d_ rfl rfl rfl (M.arg hX) (JA _) o_ m_ ?_; intro a w4 vA loA hiA S M
  refine gp [[0,1,1],[3],[931]] ?_
  have M' := M.fresh 0 rfl
  rw [Nat.zero_add, List.nil_append] at M'
  exact ⟨_, by rw [Gf hok], M.below, fun _ => by rw [show (x ++ cs).take ((x ++ cs).length - 4) = x by rw [hlx]; simp]; exact M', fun h => absurd hok h⟩
 intro a h20 S
 refine gp [[7,1,1],[3]] ?_; intro a S
 have hj4 : j < 4 := by omega
 obtain ⟨c, hc⟩ : ∃ c, cs[j]? = some c := ⟨_, List.getElem?_eq_getElem o_⟩
 have hc' : (x ++ cs)[((x.length : Int) + (j : Int)).toNat]? = some c := by rw [show ((x.length : Int) + (j : Int)).toNat = x.length + j by omega, List.getElem?_append_right o_, Nat.add_sub_cancel_left]; exact hc
 refine gp [[920],[921,1,1,1]] ?_; intro a S
 (refine qU S (fun w M => Zo S rfl rfl o_) ?_); intro a S
 refine qU S (fun w M => qX 5 1 S (M.arg hv)) ?_; intro a S
 replace S := S.n_
 refine qU S (fun w M => Jf S k_ rfl ((M.arg hv).byte hc')) ?_
 refine gp [[921,1,1]] ?_; intro a S
 (refine qU S (fun w M => GG S rfl rfl o_) ?_); intro a S
 rw [show (8 : Int) * (j : Int) = ((8 * j : Nat) : Int) by omega] at S
 refine qU S (fun w M => VY S rfl rfl) ?_; intro a S
 refine qU S (fun w M => Zg S rfl k_ k_) ?_
 refine gi [[921,1],[2],[940,33]] ?_ ?_
 ·intro a w2 h33 S M
  refine gp [[3,1,1],[8],[931]] ?_
  exact YU M (fun h => by
   have e := (Yl hcs).1 h
   rw [e, DB _ _ hj4] at hc
   have := Option.some.inj hc
   rw [this] at h33; exact h33 rfl)
 intro a w2 h33 S M
 refine gp [[5],[901],[0,1],[2]] ?_; intro a S
 refine ⟨4 - (j + 1), by omega, j + 1, by omega, rfl, S.sub _ rfl, M, fun i hi => ?_⟩
 grind [DB, UInt8.toNat_inj]
theorem KN (v : Value) (bs : List UInt8) (w : World) (hv : Bs 0 w.heap.size w v bs) (hb : bs.length ≤ 70000000000000) : CT 251 #[v] w (Qw bs w) := by
 have M := Mem.start w
 have hcap := hv.cap
 refine qI Tryz.func251 62 ?_
 refine gq [[2,1,1],[5,1],[908,5],[0,1],[2],[940,9]] ?_ ?_
 ·intro a h9 S
  refine gp [[3,1,1],[4],[931]] ?_
  grind [YU, Q2]
 intro a h9 S
 refine gp [[5,1],[908,5],[901],[0,1],[4]] ?_; intro a S
 obtain ⟨x, cs, rfl, hcs⟩ := Jdm bs o_
 have hlx : (x ++ cs).length = x.length + 4 := by grind
 rw [show ((x ++ cs).length : Int) - 4 = (x.length : Int) by omega] at S
 have hX := hv.cutB (i := 0) (j := x.length) (mx := Yb v) (Nat.zero_le _) o_ o_ (Nat.le_refl _)
 rw [show ((x ++ cs).drop 0).take (x.length - 0) = x by simp] at hX
 obtain ⟨c0, c1, c2, c3, rfl⟩ : ∃ c0 c1 c2 c3, cs = [c0, c1, c2, c3] := by
  match cs, hcs with
  | [a, b, c, d], _ => grind
 have g0 : (x ++ [c0, c1, c2, c3])[x.length]? = some c0 := by simp
 have g1 : (x ++ [c0, c1, c2, c3])[((x.length : Int) + 1).toNat]? = some c1 := by grind
 have g2 : (x ++ [c0, c1, c2, c3])[((x.length : Int) + 2).toNat]? = some c2 := by grind
 have g3 : (x ++ [c0, c1, c2, c3])[((x.length : Int) + 3).toNat]? = some c3 := by grind
 refine qY S (Vz S rfl) ?_
 refine gp [[0,1]] ?_; intro a S
 refine qY S (zN (e := 5) (sz := 1) S k_ rfl (M.arg hv) rfl o_) ?_; intro a S
 rw [Int.toNat_natCast] at S
 refine qK S rfl (QY _ x _ (M.argW hX)) M ?_; intro a w1 S hK M
 refine gp [[0,1],[5,1,1],[907,5,1]] ?_; intro a S
 refine qY S (Jf S k_ rfl ((M.arg hv).byte g0)) ?_
 refine gp [[0,1]] ?_; intro a S
 refine qY S (Zg S rfl k_ k_) ?_
 refine gq [[0,1,1],[940,24]] ?_ ?_
 ·intro a h24 S
  refine gp [[0,0,0,0,0,0,0,0,0,0,1,1,0,0,0,0,0,0,0,0,0,1,1,0,0,0,0,0,0,0,0,0,1],[5,1,1],[4],[931]] ?_
  exact YU M (fun h => by
   have e := (Yl hcs).1 h
   simp only [Y4, List.cons.injEq, and_true] at e
   obtain ⟨e0, e1, e2, e3⟩ := e
   (apply h24; rw [e0]))
 intro a h24 S
 refine gp [[0,1,1],[901],[907,5,1]] ?_; intro a S
 refine qY S (Jf S k_ rfl ((M.arg hv).byte g1)) ?_
 refine gp [[0,1]] ?_; intro a S
 refine qY S (VY (k := 8) S rfl rfl) ?_; intro a S
 refine qY S (Zg S rfl k_ k_) ?_
 refine gq [[0,1,1,1],[940,35]] ?_ ?_
 ·intro a h35 S
  refine gp [[0,0,0,0,0,0,0,0,0,0,1,1,0,0,0,0,0,0,0,0,0,1],[5,1,1],[4],[931]] ?_
  exact YU M (fun h => by
   have e := (Yl hcs).1 h
   simp only [Y4, List.cons.injEq, and_true] at e
   obtain ⟨e0, e1, e2, e3⟩ := e
   (apply h35; rw [e1]))
 intro a h35 S
 refine gp [[0,1,1],[901],[907,5,1]] ?_; intro a S
 refine qY S (Jf S k_ rfl ((M.arg hv).byte g2)) ?_
 refine gp [[0,1]] ?_; intro a S
 refine qY S (VY (k := 16) S rfl rfl) ?_; intro a S
 refine qY S (Zg S rfl k_ k_) ?_
 refine gq [[0,1,1,1],[940,46]] ?_ ?_
 ·intro a h46 S
  refine gp [[0,0,0,0,0,0,0,0,0,0,1],[5,1,1],[4],[931]] ?_
  exact YU M (fun h => by
   have e := (Yl hcs).1 h
   simp only [Y4, List.cons.injEq, and_true] at e
   obtain ⟨e0, e1, e2, e3⟩ := e
   (apply h46; rw [e2]))
 intro a h46 S
 refine gp [[0,1,1],[901],[907,5,1]] ?_; intro a S
 refine qY S (Jf S k_ rfl ((M.arg hv).byte g3)) ?_
 refine gp [[0,1]] ?_; intro a S
 refine qY S (VY (k := 24) S rfl rfl) ?_; intro a S
 refine qY S (Zg S rfl k_ k_) ?_
 refine gq [[0,1,1],[2],[940,56]] ?_ ?_
 ·intro a h56 S
  refine gp [[3,1,1],[4],[931]] ?_
  exact YU M (fun h => by
   have e := (Yl hcs).1 h
   simp only [Y4, List.cons.injEq, and_true] at e
   obtain ⟨e0, e1, e2, e3⟩ := e
   (apply h56; rw [e3]))
 intro a h56 S
 refine gp [[5]] ?_; intro a S
 have hok : Yj (x ++ [c0, c1, c2, c3]) := (Yl hcs).2 (by
  simp only [Y4, List.cons.injEq, and_true]
  exact ⟨UInt8.toNat_inj.1 o_, UInt8.toNat_inj.1 o_, UInt8.toNat_inj.1 o_, UInt8.toNat_inj.1 o_⟩)
 refine qY S (JP S rfl) ?_
 refine gp [[4,1,1,1]] ?_; intro a S
 refine qY S (zN (e := 5) (sz := 1) S k_ rfl (M.arg hv) rfl o_) ?_; intro a S
 rw [Int.toNat_natCast] at S
 replace M := M.rowNil 5 1
 refine JI (e := 5) (sz := 1) (by_ := 1) (zc := Ym) S M 0 rfl rfl k_ rfl d_ rfl rfl rfl (M.arg hX) (JA _) o_ m_ ?_; intro a w2 vA loA hiA S M
 refine gp [[0,1,1],[3],[931]] ?_
 have M' := M.fresh 0 rfl
 rw [Nat.zero_add, List.nil_append] at M'
 exact ⟨_, by rw [Gf hok], M.below, fun _ => by rw [show (x ++ [c0, c1, c2, c3]).take ((x ++ [c0, c1, c2, c3]).length - 4) = x by rw [hlx]; simp]; exact M', fun h => absurd hok h⟩
end
end Go.Proofs.YtocppoflhllelaaGreat
