/-
  What PartStrict rests on, part 7.
-/
import Derived.Test.YtocppoflhllelaaGreatP4
import Derived.Test.YtocppoflhllelaaGreatP5
namespace Go.Proofs.YtocppoflhllelaaGreat
open Go.RowKit Go.Sort
section
variable {ds : List Deferred}
theorem Jib (d : Nat) (a b c e : Int) (w : World) : (Op.equalIn (d + 2) 85 (.agg #[.int .i64 a, .int .i64 b]) (.agg #[.int .i64 c, .int .i64 e])).run Tryz.prog w = .ok (a == c && b == e) w := by
 simp [go_sem]
 grind
theorem jX (n m : Int) (w : World) : CQ 123 #[.int .i64 n, .int .i64 m] w (.bool (Va n m)) := by
 have M := Mem.start w
 refine qI Tryz.func123 12 ?_
 refine gq [[2,1],[4,1,1,1],[940,7]] ?_ ?_
 ·intro a h7 S
  refine gp [[0,1,1,1,1,1],[3],[930]] ?_
  refine ⟨Jb ?_, M.below⟩; grind [Va]
 intro a h7 S
 refine gp [[0,0,0,0,1,1],[3],[930]] ?_
 refine ⟨Jb ?_, M.below⟩; grind [Va]
theorem Zf (n : Nm) (w : World) : CQ 62 #[.agg n.cells] w (.bool n.named) := by
 have M := Mem.start w
 refine qI Tryz.func62 16 ?_; intro a S
 refine nxD (qW_ S M ?_); intro a w1 b1 S M hB
 refine gp [[0,1],[4,1,1]] ?_; intro a S
 refine qK S rfl (jX _ _ _) M ?_; intro a w2 S hK M
 refine qG [1] S ?_; intro a S
 refine Jm (t := 6) S rfl ?_ ?_
 ·intro h6 S
  refine gp [[0,0,0,0,1,1,0,0,0,1,1],[3],[930]] ?_
  exact ⟨Jb (by simp [Nm.named, *]), M.below⟩
 intro h6 S
 refine gp [[0,2,1]] ?_; intro a S
 refine qK S rfl (jX _ _ _) M ?_; intro a w3 S hK M
 refine qG [1, 1] S ?_; intro a S
 refine Jm (t := 11) S rfl ?_ ?_
 ·intro h11 S
  refine gp [[0,0,0,0,1,1],[3],[930]] ?_
  exact ⟨Jb (by simp [Nm.named, *]), M.below⟩
 intro h11 S
 refine gp [[0,3,1]] ?_; intro a S
 refine qK S rfl (jX _ _ _) M ?_; intro a w4 S hK M
 refine gp [[0,1,1],[3],[930]] ?_
 exact ⟨Jb (by simp [Nm.named, *]), M.below⟩
theorem EG (n : Int) (w : World) : CQ 176 #[.int .i64 n] w (.bool (ZG n)) := by
 have M := Mem.start w
 refine qI Tryz.func176 9 ?_
 refine gq [[2,1],[4,1,1,1],[940,5]] ?_ ?_
 ·intro a h5 S
  refine gp [[0,1,1,1,1],[3],[930]] ?_
  refine ⟨Jb ?_, M.below⟩; grind [ZG]
 intro a h5 S
 refine gp [[0,0,0,1,1],[3],[930]] ?_
 refine ⟨Jb ?_, M.below⟩; grind [ZG]
theorem Jaw (s t : Int) (w : World) : CQ 180 #[.agg #[.int .i64 s, .int .i64 t]] w (.bool (YA s t)) := by
 have M := Mem.start w
 refine qI Tryz.func180 27 ?_; intro a S
 refine nxD (qW_ S M ?_); intro a w1 b1 S M hB
 refine gq [[0,1],[5,1,1,1],[2],[940,5]] ?_ ?_
 ·intro a h5 S
  refine gp [[3,2,1,1,1],[4],[930]] ?_
  grind [YA]
 intro a h5 S
 refine gq [[5,1,1,1,1],[943,12]] ?_ ?_
 ·intro a h12 S
  refine gp [[0,0,0,0,1,1,0,0,0,1,1,0,0,0,1,1],[3],[930]] ?_
  grind [YA]
 intro a h12 S
 refine gq [[0,1,1,1,1,1],[943,17]] ?_ ?_
 ·intro a h17 S
  refine gp [[0,0,0,0,1,1,0,0,0,1,1],[3],[930]] ?_
  grind [YA]
 intro a h17 S
 refine gq [[0,2,1,1,1,1],[943,22]] ?_ ?_
 ·intro a h22 S
  refine gp [[0,0,0,0,1,1],[3],[930]] ?_
  grind [YA]
 intro a h22 S
 refine gp [[0,2,1,1,1,1],[3],[930]] ?_
 grind [YA]
theorem JgD {n : Int} (h0 : 0 < n) (h : n ≤ 9223372036854775807) : (Z9 n 30 == 0) = decide (n < 32 ∧ n % 2 = 0) := by
 obtain ⟨k, rfl⟩ := Int.eq_ofNat_of_zero_le (show 0 ≤ n by omega)
 have e1 : BitVec.ofInt 64 (k : Int) = BitVec.ofNat 64 k := by simp
 have hw : ∀ x : BitVec 64, (IntKind.i64.wrap (x.toNat : Int) == 0) = (x == 0#64) := fun x => by
  have hx := x.isLt
  have : IntKind.i64.wrap (x.toNat : Int) = 0 ↔ x = 0#64 := by
   have hz : x = 0#64 ↔ x.toNat = 0 := by rw [← BitVec.toNat_inj]; simp
   grind [IntKind.wrap, IntKind.bits]
  grind
 unfold Z9
 rw [show IntKind.i64.bits = 64 from rfl, hw, e1]
 rcases Nat.lt_or_ge k 32 with hk | hk
 ·have : ∀ j : Fin 32, (BitVec.ofNat 64 j.val &&& ~~~BitVec.ofInt 64 30 == 0#64) = decide ((j.val : Int) < 32 ∧ (j.val : Int) % 2 = 0) := by decide
  exact this ⟨k, hk⟩
 ·rw [decide_eq_false o_, beq_eq_false_iff_ne]
  intro hc
  have h5 : ∀ i, 5 ≤ i → i < 64 → k.testBit i = false := fun i hi hlt => by
   have := congrArg (fun b : BitVec 64 => b.getLsbD i) hc
   simp only [BitVec.getLsbD_and, BitVec.getLsbD_not, BitVec.getLsbD_ofNat, hlt, decide_true, Bool.true_and] at this
   rw [Nat.zero_testBit] at this
   cases hb : k.testBit i with
   | false => rfl
   | true =>
     have h30 : (!(BitVec.ofInt 64 30).getLsbD i) = false := by grind
     rw [show BitVec.ofInt 64 30 = BitVec.ofNat 64 30 from rfl, BitVec.getLsbD_ofNat] at h30
     have : Nat.testBit 30 i = false := Nat.testBit_lt_two_pow (Nat.lt_of_lt_of_le (by omega : 30 < 2 ^ 5) (Nat.pow_le_pow_right o_ hi))
     grind
  have hk63 : k < 2 ^ 64 := by omega
  have : k >>> 5 = 0 := by
   apply Nat.eq_of_testBit_eq
   intro i
   rw [Nat.testBit_shiftRight, Nat.zero_testBit]
   rcases Nat.lt_or_ge (5 + i) 64 with hlt | hge
   ·grind
   ·exact Nat.testBit_lt_two_pow (Nat.lt_of_lt_of_le hk63 (Nat.pow_le_pow_right o_ hge))
  omega
theorem Jbn (n : Int) (w : World) (hn : n ≤ 9223372036854775807) : CQ 179 #[.int .i64 n] w (.bool (Z3 n)) := by
 have M := Mem.start w
 have key := fun h => JgD (n := n) h hn
 unfold Z9 at key
 refine qI Tryz.func179 10 ?_
 refine gq [[2,1],[4,1,1,1],[943,5]] ?_ ?_
 ·intro a h5 S
  refine gp [[0,0,0,0,1,1],[3],[930]] ?_
  refine ⟨Jb ?_, M.below⟩; grind [Z3]
 intro a h5 S
 refine qG [1] S ?_; intro a S
 refine qY S (Do S rfl rfl) ?_
 refine gp [[0,1,1,1],[3],[930]] ?_
 refine ⟨Jb ?_, M.below⟩; grind [Z3]
theorem UP (va vb : Value) (x y : List Wr) (w : World) (hx : Ws 0 w.heap.size w va x) (hy : Ws 0 w.heap.size w vb y) :
 CQ 128 #[va, vb] w (.bool (vx x y)) := by
 have M := Mem.start w
 have hl := hx.2.1
 unfold maxLen at hl
 have hne : x.length ≠ y.length → vx x y = false := fun h => by
  grind [Zm]
 refine qI Tryz.func128 26 ?_
 refine gq [[2,1],[5,1],[908,108],[0,1],[908,108],[0,1],[2],[940,10]] ?_ ?_
 ·intro a h10 S
  refine gp [[3,1],[4],[930]] ?_
  exact ⟨Jb (hne o_).symm, M.below⟩
 intro a h10 S
 refine gp [[6,1],[908,108],[0,1],[3]] ?_; intro a S
 refine Jc (fun m a w' => ∃ (k : Nat), k ≤ x.length ∧ m = x.length - k ∧ Jk 26 a [(0, va), (1, vb), (12, .int .i64 (x.length : Int)), (13, .int .i64 (k : Int))] ∧ Mem w w' [] ∧ ∀ j, j < k → x[j]? = y[j]?) (x.length) ?_ ?_
 ·skip
  exact ⟨0, Nat.zero_le _, rfl, S.sub _ rfl, M, fun j h => by omega⟩
 intro m a wl
 rintro ⟨k, hk, rfl, S, M, hpre⟩
 refine gq [[2,1],[3],[943,14]] ?_ ?_
 ·intro a h14 S
  refine gp [[8,1],[3],[930]] ?_
  obtain rfl : k = x.length := by omega
  refine ⟨Jb (Zm.2 (List.ext_getElem? fun j => ?_)).symm, M.below⟩
  grind
 intro a h14 S
 refine gp [[7,1,1],[3]] ?_; intro a S
 obtain ⟨p, hp⟩ : ∃ p, x[k]? = some p := ⟨_, List.getElem?_eq_getElem o_⟩
 obtain ⟨q, hq⟩ : ∃ q, y[k]? = some q := ⟨_, List.getElem?_eq_getElem o_⟩
 refine gp [[920],[921,1,1]] ?_; intro a S
 refine qU S (fun w M => qX 108 9 S ((M.arg hx))) ?_; intro a S
 replace S := S.n_
 refine qU S (fun w M => Ja S k_ rfl rfl ((M.arg hx).at_.row (i := k) (JQ hp) rfl)) ?_
 refine gp [[921,1,1]] ?_; intro a S
 refine qU S (fun w M => qX 108 9 S ((M.arg hy))) ?_; intro a S
 replace S := S.n_
 refine qU S (fun w M => Ja S k_ rfl rfl ((M.arg hy).at_.row (i := k) (JQ hq) rfl)) ?_; intro a S
 refine qU S (fun w M => jU k_ S rfl rfl (fun w => Ja1 9997 p q w)) ?_
 refine go [[2]] ?_; intro a w1 S M
 refine Js (t := 24) S rfl ?_ ?_
 ·intro h24 S
  refine gp [[3,1],[8],[930]] ?_
  refine ⟨Jb ?_, M.below⟩
  grind [Zm, Wr.eqb_iff]
 intro h24 S
 refine gp [[5],[901],[0,1],[2]] ?_; intro a S
 refine ⟨x.length - (k + 1), by omega, k + 1, by omega, rfl, S.sub _ rfl, M, fun j hj => ?_⟩
 grind [Wr.eqb_iff]
theorem jC {α : Type} {x : List α} {k : Nat} {a : α} (h : x[k]? = some a) : x.drop k = a :: x.drop (k + 1) := by
 grind [List.drop_eq_getElem_cons]
theorem vD (v : Value) (x : List Wr) (w : World) (hx : Ws 0 w.heap.size w v x) : CQ 124 #[v] w (.bool (Jv x)) := by
 have M := Mem.start w
 refine qI Tryz.func124 27 ?_
 refine gq [[2,1],[5,1],[908,108],[0,1],[2],[940,8]] ?_ ?_
 ·intro a h8 S
  refine gp [[3,1],[4],[930]] ?_
  refine ⟨Jb ?_, M.below⟩; grind [Jv]
 intro a h8 S
 refine gp [[5,1],[5,1],[908,108],[0,1],[3]] ?_; intro a S
 refine Jc (fun m a w' => ∃ (k : Nat) (last : Int), k ≤ x.length ∧ m = x.length - k ∧ Jk 27 a [(3, .int .i64 last), (9, v), (10, .int .i64 (x.length : Int)), (11, .int .i64 (k : Int))] ∧ Mem w w' [] ∧ V7 (-1) x = V7 last (x.drop k)) (x.length) ?_ ?_
 ·skip
  exact ⟨0, -1, Nat.zero_le _, rfl, S.sub _ rfl, M, rfl⟩
 intro m a wl
 rintro ⟨k, last, hk, rfl, S, M, hpre⟩
 refine gq [[2,1],[3],[943,12]] ?_ ?_
 ·intro a h12 S
  refine gp [[8,1],[3],[930]] ?_
  obtain rfl : k = x.length := by omega
  refine ⟨Jb ?_, M.below⟩; unfold Jv; rw [decide_eq_true o_, hpre, List.drop_length]; rfl
 intro a h12 S
 refine gp [[7]] ?_; intro a S
 obtain ⟨p, hp⟩ : ∃ p, x[k]? = some p := ⟨_, List.getElem?_eq_getElem o_⟩
 rw [jC hp] at hpre
 refine gp [[907,108,9]] ?_; intro a S
 refine qY S (Ja S k_ rfl rfl ((M.arg hx).at_.row (i := k) (JQ hp) rfl)) ?_; intro a S
 refine qN S M Ww ?_; intro a w1 bW S M hB
 refine gi [[900,0],[5,1,1,1,1,1],[940,19]] ?_ ?_
 ·intro a w2 h19 S M
  refine gp [[0,0,0,0,1],[5,1],[9],[930]] ?_
  refine ⟨Jb ?_, M.below⟩; grind [Jv, V7]
 intro a w2 h19 S M
 refine gq [[0,1,1,1,1],[2],[940,23]] ?_ ?_
 ·intro a h23 S
  refine gp [[3,1],[9],[930]] ?_
  refine ⟨Jb ?_, M.below⟩; grind [Jv, V7]
 intro a h23 S
 refine gp [[4,1,1,1],[4],[901],[0,1],[2]] ?_; intro a S
 replace M := M.drp 0
 refine ⟨x.length - (k + 1), by omega, k + 1, p.block, by omega, rfl, S.sub _ rfl, M, ?_⟩
 grind [V7]
theorem K6 (a b : Rc) (va vb : Value) (x y : List Wr) (w : World) (hx : Ws 0 w.heap.size w va x) (hy : Ws 0 w.heap.size w vb y) :
 CQ 97 #[.agg (a.cells va), .agg (b.cells vb)] w (.bool (a.same b x y)) := by
 obtain ⟨aa, ca, rfl, -, -⟩ := hx.form
 obtain ⟨ab, cb, rfl, -, -⟩ := hy.form
 have M := Mem.start w
 generalize hr : a.same b x y = R
 refine qI Tryz.func97 66 ?_; intro a S
 refine nxD (qW_ S M ?_); intro a w1 b1 S M hB
 refine qW_ S M ?_; intro a w2 b2 S M hB
 refine gp [[0,1],[4,1,2,1,1,1,1]] ?_; intro a S
 refine Jm (t := 10) S rfl ?_ ?_
 ·intro h10 S
  refine gp [[0,0,0,0,0,0,1,1,0,0,0,0,0,1,1,0,0,0,0,0,1,1,0,0,0,0,0,1,1,0,0,0,0,0,1,1,0,0,0,0,0,1,1,0,0,0,0,0,1,1,0,0,0,0,0,1,1],[3],[930]] ?_
  refine ⟨Jb ?_, M.below⟩; grind [Rc.same]
 intro h10 S
 refine gp [[0,2],[902,1,3],[0,2],[902,0,3]] ?_; intro a S
 refine qY S (VI k_ S rfl rfl (fun w => VG 9998 ⟨_, _, _⟩ ⟨_, _, _⟩ w)) ?_
 refine gp [[0,1,1]] ?_; intro a S
 refine Jm (t := 17) S rfl ?_ ?_
 ·intro h17 S
  refine gp [[0,0,0,0,0,0,1,1,0,0,0,0,0,1,1,0,0,0,0,0,1,1,0,0,0,0,0,1,1,0,0,0,0,0,1,1,0,0,0,0,0,1,1,0,0,0,0,0,1,1],[3],[930]] ?_
  refine ⟨Jb ?_, M.below⟩; rw [← hr]; clear S M; simp [Rc.same, *]
 intro h17 S
 refine gp [[0,5,2,5,1]] ?_; intro a S
 refine qY S (GJ k_ S rfl rfl) ?_
 refine gp [[0,1,1]] ?_; intro a S
 refine Jm (t := 24) S rfl ?_ ?_
 ·intro h24 S
  refine gp [[0,0,0,0,0,0,1,1,0,0,0,0,0,1,1,0,0,0,0,0,1,1,0,0,0,0,0,1,1,0,0,0,0,0,1,1,0,0,0,0,0,1,1],[3],[930]] ?_
  refine ⟨Jb ?_, M.below⟩; grind [Rc.same]
 intro h24 S
 refine gp [[0,6,2,6,1]] ?_; intro a S
 refine qK S rfl (UP _ _ x y _ (M.argW hx) (M.argW hy)) M ?_; intro a w3 S hK M
 refine qG [1, 1] S ?_; intro a S
 refine Jm (t := 31) S rfl ?_ ?_
 ·intro h31 S
  refine gp [[0,0,0,0,0,0,1,1,0,0,0,0,0,1,1,0,0,0,0,0,1,1,0,0,0,0,0,1,1,0,0,0,0,0,1,1],[3],[930]] ?_
  refine ⟨Jb ?_, M.below⟩; grind [Rc.same]
 intro h31 S
 refine gp [[0,7,2,7,1,1,1,1]] ?_; intro a S
 refine Jm (t := 38) S rfl ?_ ?_
 ·intro h38 S
  refine gp [[0,0,0,0,0,0,1,1,0,0,0,0,0,1,1,0,0,0,0,0,1,1,0,0,0,0,0,1,1],[3],[930]] ?_
  refine ⟨Jb ?_, M.below⟩; grind [Rc.same]
 intro h38 S
 refine gp [[0,8,2,8,1,1,1,1]] ?_; intro a S
 refine Jm (t := 45) S rfl ?_ ?_
 ·intro h45 S
  refine gp [[0,0,0,0,0,0,1,1,0,0,0,0,0,1,1,0,0,0,0,0,1,1],[3],[930]] ?_
  refine ⟨Jb ?_, M.below⟩; grind [Rc.same]
 intro h45 S
 refine gp [[0,9,2,9,1,1,1,1]] ?_; intro a S
 refine Jm (t := 52) S rfl ?_ ?_
 ·intro h52 S
  refine gp [[0,0,0,0,0,0,1,1,0,0,0,0,0,1,1],[3],[930]] ?_
  refine ⟨Jb ?_, M.below⟩; grind [Rc.same]
 intro h52 S
 refine gp [[0,10],[902,1,2],[0,10],[902,0,2]] ?_; intro a S
 refine qY S (VI k_ S rfl rfl (fun w => Jib 9998 _ _ _ _ w)) ?_
 refine gp [[0,1,1]] ?_; intro a S
 refine Jm (t := 59) S rfl ?_ ?_
 ·intro h59 S
  refine gp [[0,0,0,0,0,0,1,1],[3],[930]] ?_
  refine ⟨Jb ?_, M.below⟩; grind [Rc.same]
 intro h59 S
 refine gp [[0,12,2,12,1,1,1,1],[3],[930]] ?_
 refine ⟨Jb ?_, M.below⟩; rw [← hr]; clear S M; simp [Rc.same, *]
end
section
variable {cs : List Value} {lo hi : Nat} {ps : Pl} {v : Value} {w : World}
theorem JaV (k : Int) (w : World) : CQ 311 #[.int .i64 k] w (.bool (decide (zd k))) := by
 have M := Mem.start w
 refine qI Tryz.func311 9 ?_
 refine gq [[2,1],[4,1,1,1],[940,5]] ?_ ?_
 ·intro a h5 S
  refine gp [[0,1,1,1,1],[3],[930]] ?_
  refine ⟨Jb ?_, M.below⟩; show _ = decide (0 ≤ k ∧ k < 32); grind
 intro a h5 S
 refine gp [[0,0,0,1,1],[3],[930]] ?_
 refine ⟨Jb ?_, M.below⟩; show _ = decide (0 ≤ k ∧ k < 32); grind
def zM : List Value := Jo (List.replicate 32 zV8)
theorem WD : zM.length = 256 := by grind [zM, JF]
theorem Jd1 (home : List V8) (v : Value) (ws : List Wr) (w : World) (hh : home.length = 32) (hv : Ws 0 w.heap.size w v ws) : CQ 248 #[.agg (Jo home).toArray, v] w (.agg (Jo (onF home ws)).toArray) := by
 have M := Mem.start w
 have hl := hv.2.1
 have hh1 : (Jo home).length = 256 := by rw [JF, hh]
 have hh2 : ∀ x, (Jo (onF home x)).length = 256 := fun x => by rw [JF, Ve, hh]
 unfold maxLen at hl
 refine qI Tryz.func248 23 ?_; intro a S
 refine nxD (VA S M rfl rfl rfl _ rfl ?_); intro a w1 bF S M hB
 refine qN S M (zM).toArray ?_; intro a w2 bR S M hB
 refine gp [[5,1],[908,108],[0,1],[3]] ?_; intro a S
 refine Jc (fun m a w' => ∃ (k : Nat), k ≤ ws.length ∧ m = ws.length - k ∧ Jk 23 a [(2, p_ bF), (4, p_ bR), (7, v), (8, .int .i64 (ws.length : Int)), (9, .int .i64 (k : Int))] ∧ Mem w w' [.blk bR zM.toArray 40, .blk bF (Jo (onF home (ws.take k))).toArray 40]) (ws.length) ?_ ?_
 ·skip
  exact ⟨0, Nat.zero_le _, rfl, S.sub _ rfl, M⟩
 intro m a wl
 rintro ⟨k, hk, rfl, S, M⟩
 refine gq [[2,1],[3],[943,10]] ?_ ?_
 ·intro a h10 S
  refine gp [[8]] ?_; intro a S
  refine qY S (Ja (k := 256) (cs := _) S k_ rfl (by grind) (M.cellsAt 1 rfl JC)) ?_; intro a S
  refine JN (sz := 256) S M 0 rfl k_ rfl rfl (by grind) (by exact Yi _) rfl (by exact WD) ?_; intro w7 M
  replace M := M.s_
  refine nxC (wp_ret (Vb S rfl (Y8 (k := 256) (cs := _) k_ rfl (by grind) (M.cellsAt 0 rfl JC)) ?_))
  obtain rfl : k = ws.length := by omega
  exact ⟨by grind, M.below⟩
 intro a h10 S
 refine gp [[7]] ?_; intro a S
 have hk' : k < ws.length := by omega
 obtain ⟨x, hx⟩ : ∃ x, ws[k]? = some x := ⟨_, List.getElem?_eq_getElem hk'⟩
 refine gp [[907,108,9]] ?_; intro a S
 refine qY S (Ja S k_ rfl rfl ((M.arg hv).at_.row (i := k) (JQ hx) rfl)) ?_; intro a S
 refine qN S M Ww ?_; intro a w3 bW S M hB
 refine go [[900,0],[4,1,1]] ?_; intro a w4 S M
 refine qK S rfl (JaV _ _) M ?_; intro a w5 S hK M
 refine nxC (qf 15 S ?_ ?_)
 ·intro h15 S
  refine gp [[5],[901],[0,1],[2]] ?_; intro a S
  replace M := M.drp 0
  refine ⟨ws.length - (k + 1), by omega, k + 1, by omega, rfl, S.sub _ rfl, ?_⟩
  rw [yJ hx]; grind [on1]
 intro h15 S
 refine cT S ?_
 have hin : zd x.block := by omega
 have hin' : 0 ≤ x.block ∧ x.block < 32 := hin
 refine gp [[1,1,1,2],[902,0,8],[906,32,8]] ?_; intro a S
 refine Ju (sz := 8) (us := [_, _, _, _, _, _, _, _]) S M 2 rfl k_ rfl rfl rfl rfl rfl rfl (by grind [List.length_nil]) ?_; intro w6 M
 replace M := M.s_
 refine gp [[4],[901],[0,1],[2]] ?_; intro a S
 replace M := M.drp 0
 refine ⟨ws.length - (k + 1), by omega, k + 1, by omega, rfl, S.sub _ rfl, ?_⟩
 rw [yJ hx]; grind [on1, Ug, Ve]
theorem Xx (p : Pr) (va : Option Addr) (vc : Nat) (ws : List Wr) (w : World) (hv : Ws 0 w.heap.size w (.slice va ws.length vc) ws) (hl : ws.length ≤ 1000000) :
 CT 247 #[.agg (p.cellsL (.slice va ws.length vc)).toArray] w fun e w' => ∃ ad cp, e = .returned (.agg (p.cellsL (.slice ad ws.length cp)).toArray) ∧ Fresh w w' 108 9 (.slice ad ws.length cp) ws.length (JM ws) := by
 have M := Mem.start w
 refine qI Tryz.func247 8 ?_; intro a S
 refine nxD (qW_ S M ?_); intro a w1 b1 S M hB
 refine qN S M zz ?_; intro a w2 b2 S M hB
 refine gp [[4,4,2]] ?_; intro a S
 refine qD S rfl (ve _ ws _ (M.argW hv) hl) ?_
 rintro _ w3 ⟨v', rfl, hF⟩; refine rv_ ?_; intro a S
 obtain ⟨ad, cp, hE, -, -⟩ := (hF.rd0 (by grind [maxLen])).form
 obtain ⟨lo, hi, -, M⟩ := M.pushFresh hF
 subst hE
 refine go [[0,4],[900,2],[4],[902,2,6],[900,1],[3]] ?_; intro a w5 S M
 refine Vb S rfl (rA_ 6 1 M) ?_
 exact ⟨ad, cp, rfl, M.fresh 0 rfl⟩
def PrsC (cs : List Value) (lo hi : Nat) (w : World) (v : Value) (ps : Pl) : Prop :=
 Rd lo hi w 6 v ps.length cs ∧ ∀ (i : Nat) (q : Pr × List Wr), ps[i]? = some q → ∃ lv, (cs.drop (i * 6)).take 6 = q.1.cellsL lv ∧ Ws lo hi w lv q.2
theorem PrsC.same {w' : World} (h : PrsC cs lo hi w v ps) (hs : SameOn lo hi w w') : PrsC cs lo hi w' v ps :=
 ⟨h.1.same hs, fun i q hi => let ⟨lv, e, hb⟩ := h.2 i q hi; ⟨lv, e, hb.same hs⟩⟩
theorem PrsC.wide {lo' hi' : Nat} (h : PrsC cs lo hi w v ps) (h1 : lo' ≤ lo) (h2 : hi ≤ hi') : PrsC cs lo' hi' w v ps :=
 ⟨h.1.wide h1 h2, fun i q hi => let ⟨lv, e, hb⟩ := h.2 i q hi; ⟨lv, e, hb.wide h1 h2⟩⟩
theorem Mem.prs {w0 : World} {H : List Ent} (M : Mem w0 w H) (h : PrsC cs 0 w0.heap.size w0 v ps) : PrsC cs 0 w0.heap.size w v ps := h.same fun k _ h2 => M.below.block k h2
theorem Mem.prsW {w0 : World} {H : List Ent} (M : Mem w0 w H) (h : PrsC cs 0 w0.heap.size w0 v ps) : PrsC cs 0 w.heap.size w v ps := (M.prs h).wide (Nat.le_refl _) M.below.size
theorem PrsC.sl {i : Nat} {q : Pr × List Wr} (h : PrsC cs lo hi w v ps) (hi' : ps[i]? = some q) : ∃ ad cp, (cs.drop (i * 6)).take 6 = q.1.cellsL (.slice ad q.2.length cp) ∧ Ws lo hi w (.slice ad q.2.length cp) q.2 := by
 obtain ⟨lv, e, hb⟩ := h.2 i q hi'
 obtain ⟨ad, cp, rfl, -, -⟩ := hb.form
 grind
def JgG (ps : Pl) (nm : Nm) (w : World) (e : Ending) (w' : World) : Prop :=
 ∃ (k : Nat) (b : Bool), e = .returned (.tuple #[.int .i64 (k : Int), .bool b]) ∧ Below w.heap.size w w' ∧ ((b = true ∧ JO nm ps = some k) ∨ (b = false ∧ k = 0 ∧ JO nm ps = none))
set_option maxHeartbeats 1000000 in
theorem yQ (s : St) (hs : s.ok) (dv : Value) (cs : List Value) (ps : Pl) (nm : Nm) (w : World) (hd : PrsC cs 0 w.heap.size w dv ps) : CT 51 #[.agg (s.cellsL dv).toArray, .agg nm.cells] w (JgG ps nm w) := by
 have M := Mem.start w
 have hl := hd.1.2.1
 unfold maxLen at hl
 refine qI Tryz.func51 22 ?_; intro a S
 refine nxD (VA S M rfl rfl rfl _ rfl ?_); intro a w1 bF S M hB
 refine qW_ S M ?_; intro a w2 bN S M hB
 refine gp [[0,1,1],[5,272]] ?_; intro a S
 refine qY S (Jf S k_ rfl (M.cell 1 rfl (St.doubt hs dv))) ?_; intro a S
 refine qY S (Ys (E := 57) S rfl ((M.prs hd).1) k_) ?_
 refine gp [[0,1],[3]] ?_; intro a S
 refine Jc (fun m a w' => ∃ (k : Nat), k ≤ ps.length ∧ m = ps.length - k ∧ Jk 22 a [(3, p_ bN), (9, dv), (10, .int .i64 (ps.length : Int)), (11, .int .i64 (k : Int))] ∧ Mem w w' [.blk bN nm.cells 43] ∧ ∀ (i : Nat) (p : Pr × List Wr), i < k → ps[i]? = some p → p.1.name.eqb nm = false) (ps.length) ?_ ?_
 ·skip
  replace M := M.drp 1
  exact ⟨0, Nat.zero_le _, rfl, S.sub _ rfl, M, fun i p h => absurd h o_⟩
 intro m a wl
 rintro ⟨k, hk, rfl, S, M, hno⟩
 refine gq [[2,1],[3],[943,12]] ?_ ?_
 ·intro a h12 S
  refine gp [[8,1,1],[3],[931]] ?_
  refine ⟨0, false, rfl, M.below, .inr ⟨rfl, rfl, UL fun i p hp => hno i p ?_ hp⟩⟩
  grind
 intro a h12 S
 refine gp [[7]] ?_; intro a S
 have hk' : k < ps.length := by omega
 obtain ⟨q, hq⟩ : ∃ q, ps[k]? = some q := ⟨_, List.getElem?_eq_getElem hk'⟩
 obtain ⟨ad, cp, hrow, hws⟩ := (M.prs hd).sl hq
 refine qY S (Vz S rfl) ?_; intro a S
 refine qY S (qX 57 6 S ((M.prs hd).1)) ?_; intro a S
 replace S := S.n_
 refine qY S (Ja S k_ rfl rfl ((M.prs hd).1.at_.row (i := k) hrow rfl)) ?_; intro a S
 refine qN S M zz ?_; intro a w3 bP S M hB
 refine go [[0,1],[900,0],[4,1],[902,0,3],[902,1,3]] ?_; intro a w4 S M
 refine qY S (VI k_ S rfl rfl (fun w => VG 9998 q.1.name nm w)) ?_; intro a S
 refine nxC (Js (t := 19) S rfl ?_ ?_)
 ·intro h19 S
  refine gp [[3,1,1,1],[8],[931]] ?_
  exact ⟨k, true, rfl, M.below, .inl ⟨rfl, UK hq h19 hno⟩⟩
 intro h19 S
 refine gp [[5],[901],[0,1],[2]] ?_; intro a S
 replace M := M.drp 0
 refine ⟨ps.length - (k + 1), by omega, k + 1, by omega, rfl, S.sub _ rfl, M, fun i p hi hp => ?_⟩
 grind
end
/-! ### names in their order -/
def Nm.less (a b : Nm) : Bool := decide (a.stamp < b.stamp ∨ (a.stamp = b.stamp ∧ (a.inc < b.inc ∨ (a.inc = b.inc ∧ a.try_ < b.try_))))
theorem Xg (a : Int) (w : World) : CQ 206 #[.int .i64 a] w (.bool false) := by
 have M := Mem.start w
 refine qI Tryz.func206 6 ?_
 refine gp [[2,1],[4,1,1,1,1],[3],[930]] ?_
 exact ⟨Jb (by simp), M.below⟩
def ji (a b : Int) : Int := if a < b then -1 else if b < a then 1 else 0
theorem zC (a b : Int) (w : World) : CQ 208 #[.int .i64 a, .int .i64 b] w (.int .i64 (ji a b)) := by
 have M := Mem.start w
 have key : ∀ z, ji a b = z → Ending.returned (.int .i64 z) = .returned (.int .i64 (ji a b)) := fun z h => by rw [h]
 refine qI Tryz.func208 20 ?_
 refine gp [[2,1],[4,1]] ?_; intro a S
 refine qK S rfl (Xg _ _) M ?_; intro a w1 S hK M
 refine gp [[0,1],[4,1]] ?_; intro a S
 refine qK S rfl (Xg _ _) M ?_; intro a w2 S hK M
 refine gq [[0,1],[5,1],[2],[940,11]] ?_ ?_
 ·intro a h11 S
  simp at h11
 intro a h11 S
 refine gq [[6,1],[2],[940,13]] ?_ ?_
 ·intro a h13 S
  simp at h13
 intro a h13 S
 refine gq [[6,1,1,1],[2],[940,16]] ?_ ?_
 ·intro a h16 S
  refine gp [[3,1],[4],[930]] ?_
  refine ⟨key _ ?_, M.below⟩; grind [ji]
 intro a h16 S
 refine gq [[6,1,1,1],[2],[940,19]] ?_ ?_
 ·intro a h19 S
  refine gp [[3,1],[4],[930]] ?_
  refine ⟨key _ ?_, M.below⟩; grind [ji]
 intro a h19 S
 refine gp [[5,1],[3],[930]] ?_
 refine ⟨key _ ?_, M.below⟩; grind [ji]
def orZ : List Int → Int
 | [] => 0
 | z :: r => if z = 0 then orZ r else z
theorem JiI (v : Value) (zs : List Int) (w : World) (hv : Rd 0 w.heap.size w 1 v zs.length (Vi zs)) : CQ 207 #[v] w (.int .i64 (orZ zs)) := by
 have M := Mem.start w
 have hl := hv.2.1
 unfold maxLen at hl
 refine qI Tryz.func207 18 ?_
 refine gp [[2,1],[4,1],[5,1],[908,3],[0,1],[3]] ?_; intro a S
 refine Jc (fun m a w' => ∃ (k : Nat), k ≤ zs.length ∧ m = zs.length - k ∧ Jk 18 a [(3, .int .i64 0), (6, v), (7, .int .i64 (zs.length : Int)), (8, .int .i64 (k : Int))] ∧ Mem w w' [] ∧ orZ zs = orZ (zs.drop k)) (zs.length) ?_ ?_
 ·skip
  exact ⟨0, Nat.zero_le _, rfl, S.sub _ rfl, M, rfl⟩
 intro m a wl
 rintro ⟨k, hk, rfl, S, M, hpre⟩
 refine gq [[2,1],[3],[943,9]] ?_ ?_
 ·intro a h9 S
  refine gp [[8,1,1],[3],[930]] ?_
  obtain rfl : k = zs.length := by omega
  refine ⟨?_, M.below⟩; rw [hpre, List.drop_length]; rfl
 intro a h9 S
 refine gp [[7]] ?_; intro a S
 obtain ⟨z, hz⟩ : ∃ z, zs[k]? = some z := ⟨_, List.getElem?_eq_getElem o_⟩
 rw [jC hz, orZ] at hpre
 refine gp [[907,3,1]] ?_; intro a S
 refine qY S (Jf S k_ rfl ((M.arg hv).icell hz)) ?_
 refine gq [[0,1],[4,1,1,1],[2],[940,14]] ?_ ?_
 ·intro a h14 S
  refine gp [[3,1,1],[8],[930]] ?_
  refine ⟨?_, M.below⟩; grind
 intro a h14 S
 refine gp [[5],[901],[0,1],[2]] ?_; intro a S
 rw [if_pos h14] at hpre
 exact ⟨zs.length - (k + 1), by omega, k + 1, by omega, rfl, S.sub _ rfl, M, hpre⟩
theorem Jcj (a b : Int) : (ji a b = -1 ∧ a < b) ∨ (ji a b = 0 ∧ a = b) ∨ (ji a b = 1 ∧ b < a) := by
 grind [ji]
theorem JhT (p q : Nm) : decide (orZ [ji p.stamp q.stamp, ji p.inc q.inc, ji p.try_ q.try_] < 0) = p.less q := by
 grind [Nm.less, Jcj, orZ]
theorem Qg (p q : Nm) (w : World) : CQ 125 #[.agg p.cells, .agg q.cells] w (.bool (p.less q)) := by
 have M := Mem.start w
 refine qI Tryz.func125 23 ?_; intro a S
 refine nxD (qW_ S M ?_); intro a w1 b1 S M hB
 refine qW_ S M ?_; intro a w2 b2 S M hB
 refine go [[0,1],[3],[910],[911,0,1,2,1,1],[911,5,2,2,2,1],[911,10,3,2,3,1]] ?_; intro a w3 S M
 refine k1_ 4 ?_
 refine qK S rfl (zC _ _ _) M ?_; intro a w4 S hK M
 refine kH_ hK ?_
 refine k1_ 9 ?_
 refine qK S rfl (zC _ _ _) M ?_; intro a w5 S hK M
 refine kH_ hK ?_
 refine k1_ 14 ?_
 refine qK S rfl (zC _ _ _) M ?_; intro a w6 S hK M
 refine kH_ hK ?_
 refine k1_ 15 ?_
 refine JG (ps := [(0, .tmp 9), (1, .tmp 14), (2, .tmp 19)]) (e := 3) (sz := 1) (zl := ZA) (cs := [_, _, _]) S M rfl rfl k_ rfl (rfl) ?_; intro a w7 bZ S M hB
 refine kH_ hB ?_
 refine k1_ 16 ?_
 refine qK S rfl (JiI _ [ji p.stamp q.stamp, ji p.inc q.inc, ji p.try_ q.try_] _ (M.sliceAt 0 rfl (M.cellsAt (k := 3) 0 rfl rfl) rfl (Nat.le_refl _) (by grind [maxLen]))) M ?_; intro a w8 S hK M
 refine kH_ hK ?_
 refine Jj 17 S rfl (fun w => J2 S rfl rfl rfl) ?_
 refine gp [[911,18,1],[3],[930]] ?_
 exact ⟨Jb (JhT p q), M.below⟩
structure Lk where
 name : Nm
 block : Int
 excl : Bool
deriving DecidableEq
abbrev Lk.cellsL (x : Lk) : List Value := [.int .i64 x.name.stamp, .int .i64 x.name.inc, .int .i64 x.name.try_, .int .i64 x.block, .bool x.excl]
def Jg (l : List Lk) : List Value := l.flatMap Lk.cellsL
theorem J3 : ∀ l, (Jg l).length = l.length * 5
 | [] => rfl
 | x :: l => by
   show (x.cellsL ++ Jg l).length = _
   rw [List.length_append, J3 l]; simp; omega
theorem jt : ∀ l, Jp (Jg l) = true
 | [] => rfl
 | x :: l => by
   show Jp (x.cellsL ++ Jg l) = true
   rw [JJ, jt l]; rfl
theorem yM {l : List Lk} {i : Nat} {x : Lk} (hx : l[i]? = some x) : Jg l = Jg (l.take i) ++ (x.cellsL ++ Jg (l.drop (i + 1))) := by
 grind [List.take_append_drop, List.drop_eq_getElem_cons, Jg]
theorem J6 {l : List Lk} {i : Nat} {x : Lk} (hx : l[i]? = some x) : ((Jg l).drop (i * 5)).take 5 = x.cellsL := by
 have hlt := (List.getElem?_eq_some_iff.1 hx).1
 rw [yM hx, show i * 5 = (Jg (l.take i)).length by grind [J3], List.drop_left]
 rfl
theorem Vn (a b : List Lk) : Jg (a ++ b) = Jg a ++ Jg b := by simp [Jg]
abbrev LsL (lo hi : Nat) (w : World) (v : Value) (l : List Lk) : Prop := Rd lo hi w 5 v l.length (Jg l)
abbrev PlL := Nm × Int
abbrev PlL.cellsL (p : PlL) : List Value := [.int .i64 p.1.stamp, .int .i64 p.1.inc, .int .i64 p.1.try_, .int .i64 p.2]
def Lk.pl (x : Lk) : PlL := (x.name, x.block)
def zJ (k : Int) : Bool := decide (0 ≤ k ∧ k < 32)
def Lk.may (x : Lk) : Bool := x.name.named && zJ x.block
def Lk.mode (x : Lk) : Int := if x.excl = true then 2 else 1
def jh (a b : Lk) : Bool := a.block == b.block && !a.name.eqb b.name && (a.excl || b.excl)
theorem Jee (k : Int) (w : World) : CQ 64 #[.int .i64 k] w (.bool (zJ k)) := by
 have M := Mem.start w
 refine qI Tryz.func64 9 ?_
 refine gq [[2,1],[4,1,1,1],[940,5]] ?_ ?_
 ·intro a h5 S
  refine gp [[0,1,1,1,1],[3],[930]] ?_
  refine ⟨Jb ?_, M.below⟩; grind [zJ]
 intro a h5 S
 refine gp [[0,0,0,1,1],[3],[930]] ?_
 refine ⟨Jb ?_, M.below⟩; grind [zJ]
theorem YP (x : Lk) (w : World) : CQ 121 #[.agg x.cellsL.toArray] w (.agg (PlL.cellsL x.pl).toArray) := by
 have M := Mem.start w
 refine qI Tryz.func121 8 ?_; intro a S
 refine nxD (qW_ S M ?_); intro a w1 bX S M hB
 refine qN S M #[.int .i64 0, .int .i64 0, .int .i64 0, .int .i64 0] ?_; intro a w2 b1 S M hB
 refine gp [[4,1],[902,1,3],[0,4,2]] ?_; intro a S
 refine qB_ [(0, 3), (3, 1)] Kh S ?_
 refine go [[900,0],[3]] ?_; intro a w3 S M
 refine Vb S rfl (rA_ 4 0 M) ?_
 exact ⟨rfl, M.below⟩
theorem Gk (x : Lk) (w : World) : CQ 122 #[.agg x.cellsL.toArray] w (.int .i8 x.mode) := by
 have M := Mem.start w
 refine qI Tryz.func122 5 ?_; intro a S
 refine nxD (qW_ S M ?_); intro a w1 bX S M hB
 refine gq [[0,1],[5,5,1],[2],[940,4]] ?_ ?_
 ·intro a h4 S
  refine gp [[3,1],[4],[930]] ?_
  grind [Lk.mode]
 intro a h4 S
 refine gp [[5,1],[3],[930]] ?_
 grind [Lk.mode]
theorem Qf (x : Lk) (w : World) : CQ 120 #[.agg x.cellsL.toArray] w (.bool x.may) := by
 have M := Mem.start w
 refine qI Tryz.func120 11 ?_; intro a S
 refine nxD (qW_ S M ?_); intro a w1 bX S M hB
 refine gp [[0,1],[4,1],[902,0,3]] ?_; intro a S
 refine qK S rfl (Zf x.name _) M ?_; intro a w2 S hK M
 refine qG [1] S ?_; intro a S
 refine Jm (t := 6) S rfl ?_ ?_
 ·intro h6 S
  refine gp [[0,0,0,0,1,1],[3],[930]] ?_
  refine ⟨Jb ?_, M.below⟩; grind [Lk.may]
 intro h6 S
 refine gp [[0,4,1]] ?_; intro a S
 refine qK S rfl (Jee x.block _) M ?_; intro a w3 S hK M
 refine gp [[0,1,1],[3],[930]] ?_
 refine ⟨Jb ?_, M.below⟩; grind [Lk.may]
theorem Qr (x y : Lk) (w : World) : CQ 329 #[.agg x.cellsL.toArray, .agg y.cellsL.toArray] w (.bool (jh x y)) := by
 have M := Mem.start w
 refine qI Tryz.func329 25 ?_; intro a S
 refine nxD (qW_ S M ?_); intro a w1 bX S M hB
 refine qW_ S M ?_; intro a w2 bY S M hB
 refine gp [[0,1],[4,4,2,4,1,1,1]] ?_; intro a S
 refine Jm (t := 10) S rfl ?_ ?_
 ·intro h10 S
  refine gp [[0,0,0,0,0,0,1,1,0,0,0,0,0,0,1,1],[3],[930]] ?_
  refine ⟨Jb ?_, M.below⟩; grind [jh]
 intro h10 S
 refine gp [[0,1],[902,1,3],[0,1],[902,0,3]] ?_; intro a S
 refine qY S (jU k_ S rfl rfl (fun w => VG 9998 x.name y.name w)) ?_
 refine gp [[0,1,1]] ?_; intro a S
 refine Jm (t := 17) S rfl ?_ ?_
 ·intro h17 S
  refine gp [[0,0,0,0,0,0,0,1,1],[3],[930]] ?_
  refine ⟨Jb ?_, M.below⟩; grind [jh]
 intro h17 S
 refine gp [[0,5,2,1]] ?_; intro a S
 refine Js (t := 20) S rfl ?_ ?_
 ·intro h20 S
  refine gp [[0,0,0,1,1,1],[3],[930]] ?_
  refine ⟨Jb ?_, M.below⟩; grind [jh]
 intro h20 S
 refine gp [[0,5,1,1,1,1],[3],[930]] ?_
 refine ⟨Jb ?_, M.below⟩; grind [jh]
def J1 (l : List Lk) (p : PlL) : Int := l.foldl (fun a x => if x.pl = p then max a x.mode else a) 0
def JkC (x : List Wr) (k : Nat) : Int := match k with
 | 0 => -1
 | k + 1 => ((x[k]?).map Wr.block).getD 0
theorem Wb (va vb : Value) (x y : List Wr) (w : World) (hx : Ws 0 w.heap.size w va x) (hy : Ws 0 w.heap.size w vb y) :
 CQ 83 #[va, vb] w (.bool (vx x y)) := by
 have M := Mem.start w
 have hl := hx.2.1
 unfold maxLen at hl
 have hne : x.length ≠ y.length → vx x y = false := fun h => by
  grind [Zm]
 refine qI Tryz.func83 26 ?_
 refine gq [[2,1],[5,1],[908,108],[0,1],[908,108],[0,1],[2],[940,10]] ?_ ?_
 ·intro a h10 S
  refine gp [[3,1],[4],[930]] ?_
  exact ⟨Jb (hne o_).symm, M.below⟩
 intro a h10 S
 refine gp [[6,1],[3]] ?_; intro a S
 refine Jc (fun m a w' => ∃ (k : Nat), k ≤ x.length ∧ m = x.length - k ∧ Jk 26 a [(0, va), (1, vb), (5, .int .i64 (k : Int))] ∧ Mem w w' [] ∧ ∀ j, j < k → x[j]? = y[j]?) (x.length) ?_ ?_
 ·skip
  exact ⟨0, Nat.zero_le _, rfl, S.sub _ rfl, M, fun j h => by omega⟩
 intro m a wl
 rintro ⟨k, hk, rfl, S, M, hpre⟩
 refine gp [[3,1,1]] ?_; intro a S
 refine qY S (Ys (E := 108) S rfl ((M.arg hx)) k_) ?_
 refine gq [[0,1],[2],[943,14]] ?_ ?_
 ·intro a h14 S
  refine gp [[8,1],[3],[930]] ?_
  obtain rfl : k = x.length := by omega
  refine ⟨Jb (Zm.2 (List.ext_getElem? fun j => ?_)).symm, M.below⟩
  grind
 intro a h14 S
 refine gp [[6]] ?_; intro a S
 obtain ⟨p, hp⟩ : ∃ p, x[k]? = some p := ⟨_, List.getElem?_eq_getElem o_⟩
 obtain ⟨q, hq⟩ : ∃ q, y[k]? = some q := ⟨_, List.getElem?_eq_getElem o_⟩
 refine gp [[920],[921,1,1]] ?_; intro a S
 refine qU S (fun w M => qX 108 9 S ((M.arg hx))) ?_; intro a S
 replace S := S.n_
 refine qU S (fun w M => Ja S k_ rfl rfl ((M.arg hx).at_.row (i := k) (JQ hp) rfl)) ?_
 refine gp [[921,1,1]] ?_; intro a S
 refine qU S (fun w M => qX 108 9 S ((M.arg hy))) ?_; intro a S
 replace S := S.n_
 refine qU S (fun w M => Ja S k_ rfl rfl ((M.arg hy).at_.row (i := k) (JQ hq) rfl)) ?_; intro a S
 refine qU S (fun w M => jU k_ S rfl rfl (fun w => Ja1 9997 p q w)) ?_
 refine go [[2]] ?_; intro a w1 S M
 refine Js (t := 25) S rfl ?_ ?_
 ·intro h25 S
  refine gp [[3,1],[8],[930]] ?_
  refine ⟨Jb ?_, M.below⟩
  grind [Zm, Wr.eqb_iff]
 intro h25 S
 refine gp [[5,1],[901],[0,1],[2]] ?_; intro a S
 refine ⟨x.length - (k + 1), by omega, k + 1, by omega, rfl, S.sub _ rfl, M, fun j hj => ?_⟩
 grind [Wr.eqb_iff]
def Jku (g t : Int) : Bool := ZG g && ZG t && (Qu g t == 0)
end Go.Proofs.YtocppoflhllelaaGreat
