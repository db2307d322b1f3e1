/-
  What PartStrict rests on, part 14.
-/
import Derived.Test.YtocppoflhllelaaGreatP11
namespace Go.Proofs.YtocppoflhllelaaGreat
open Go.RowKit Go.Sort
section
variable {x : Nat}
theorem Mem.eqH {w0 w : World} {H H' : List Ent} (M : Mem w0 w H) (h : H = H') : Mem w0 w H' := h ▸ M
abbrev kdL (d : Bool) (h : Nat → Bool) : List Value := [.bool d, .bool (h 0), .bool (h 1), .bool (h 2), .bool (h 3), .bool (h 4), .bool (h 5), .bool (h 6), .bool (h 7), .bool (h 8), .bool (h 9)]
theorem ten (hx : x < 10) : x = 0 ∨ x = 1 ∨ x = 2 ∨ x = 3 ∨ x = 4 ∨ x = 5 ∨ x = 6 ∨ x = 7 ∨ x = 8 ∨ x = 9 := by omega
theorem JiQ {d : Bool} {h h' : Nat → Bool} (hx : x < 10) (h1 : ∀ i, h' i = (h i || i == x)) : Jt (kdL d h) (1 + x) [.bool true] = kdL d h' := by
 rcases ten hx with rfl | rfl | rfl | rfl | rfl | rfl | rfl | rfl | rfl | rfl <;> simp [Jt, h1]
theorem JiR {d : Bool} {h : Nat → Bool} (hx : x < 10) : (kdL d h).toArray[0 + 1 + x]? = some (.bool (h x)) := by
 rcases ten hx with rfl | rfl | rfl | rfl | rfl | rfl | rfl | rfl | rfl | rfl <;> rfl
def Q5 (fs : List Nat) : List Value := fs.map fun (x : Nat) => .int .i64 (x : Int)
theorem Rd.ncell {lo hi i : Nat} {w : World} {v : Value} {fs : List Nat} {z : Nat} (h : Rd lo hi w 1 v fs.length (Q5 fs)) (hz : fs[i]? = some z) : w.cell? ⟨(adr v).block, (adr v).off + i, none⟩ = some (.int .i64 (z : Int)) := by
 have hlt := (List.getElem?_eq_some_iff.1 hz).1
 rw [h.at_ i (by grind [Q5])]; simp [Q5, hz]
theorem Yt (d : Bool) (v : Value) (fs : List Nat) (w : World) (hv : Rd 0 w.heap.size w 1 v fs.length (Q5 fs)) (h10 : ∀ x ∈ fs, x < 10) :
 CQ 127 #[.bool d, v] w (.agg (kdL d (fun i => fs.contains i)).toArray) := by
 have M := Mem.start w
 have hl := hv.2.1
 unfold maxLen at hl
 refine qI Tryz.func127 21 ?_; intro a S
 refine nxD (qN S M Jch ?_); intro a w1 bO S M hB
 refine gp [[4,1]] ?_; intro a S
 refine qB_ [(0, 1), (1, 10)] Ji6 S ?_; intro a S
 refine qN S M Jch ?_; intro a w2 bK S M hB
 refine go [[900,0],[5,1],[908,3],[0,1],[3]] ?_; intro a w3 S M
 refine Jc (fun m a w' => ∃ (k : Nat), k ≤ fs.length ∧ m = fs.length - k ∧ Jk 21 a [(4, p_ bO), (5, p_ bK), (10, v), (11, .int .i64 (fs.length : Int)), (12, .int .i64 (k : Int))] ∧ Mem w w' [.blk bK (kdL d (fun i => (fs.take k).contains i)).toArray 164, .blk bO (kdL false (fun _ => false)).toArray 164]) (fs.length) ?_ ?_
 ·skip
  exact ⟨0, Nat.zero_le _, rfl, S.sub _ rfl, M⟩
 intro m a wl
 rintro ⟨k, hk, rfl, S, M⟩
 refine gq [[2,1],[3],[943,13]] ?_ ?_
 ·intro a h13 S
  refine go [[8],[902,0,11],[900,1],[3]] ?_; intro a w5 S M
  refine Vb S rfl (rA_ 11 1 M) ?_
  obtain rfl : k = fs.length := by omega
  rw [List.take_length]; exact ⟨rfl, M.below⟩
 intro a h13 S
 refine gp [[7]] ?_; intro a S
 obtain ⟨x, hx⟩ : ∃ x, fs[k]? = some x := ⟨_, List.getElem?_eq_getElem o_⟩
 have hx10 := h10 x (List.mem_of_getElem? hx)
 refine gp [[907,3,1]] ?_; intro a S
 refine qY S (Jf S k_ rfl ((M.arg hv).ncell hx)) ?_
 refine gp [[0,1],[3,1,2],[906,10,1]] ?_; intro a S
 refine Ju (sz := 1) (us := [_]) S M 0 rfl k_ rfl rfl rfl rfl rfl rfl (by simp; omega) ?_; intro w4 M
 replace M := M.s_
 refine gp [[4],[901],[0,1],[2]] ?_; intro a S
 refine ⟨fs.length - (k + 1), by omega, k + 1, by omega, rfl, S.sub _ rfl, ?_⟩
 obtain ⟨hlt, he⟩ := List.getElem?_eq_some_iff.1 hx
 have e := JiQ (d := d) (h := fun i => (fs.take k).contains i) (h' := fun i => (fs.take (k + 1)).contains i) hx10 (fun i => by
  grind [List.take_succ_eq_append_getElem])
 grind
def vK (k : Int) : Bool := k == 1 || k == 2 || k == 4 || k == 6 || k == 9
def Ky (k : Int) : List Nat :=
 if k = 2 then [0, 1, 2, 3, 4] else if k = 3 then [0, 1, 4, 5] else if k = 4 then [0, 7, 8, 9] else if k = 5 then [0, 6] else if k = 6 then [0, 6] else if k = 7 then [0] else if k = 8 then [0] else if k = 9 then [0] else if k = 10 then [0, 5] else []
def yN (k : Int) (i : Nat) : Bool := (Ky k).contains i
def G8 (k : Int) : Bool := decide (1 ≤ k ∧ k ≤ 11)
theorem JbL (k : Int) (w : World) : CQ 70 #[.int .i8 k] w (.tuple #[.agg (kdL (vK k) (yN k)).toArray, .bool (G8 k)]) := by
 have M := Mem.start w
 refine qI Tryz.func70 45 ?_; intro a S
 refine nxD (qN S M Jch ?_); intro a w1 bO S M hB
 refine gq [[0,1],[5,1],[5,1,1],[2],[940,5]] ?_ ?_
 ·intro a h5 S
  refine cT S (nxD (qK S rfl (Yt true _ [] _ (Rd.nil _ _ _ _) (by simp)) M ?_)); intro a w2 S hK M
  refine go [[900,0],[0,1],[5]] ?_; intro a w3 S M
  refine Jr S rfl (rA_ 11 0 M) rT_ ?_
  have hB' := M.below
  clear S M
  (suffices hk : k = 1 by (subst hk; exact ⟨rfl, hB'⟩)
   omega)
 intro a h5 S
 refine gq [[3,1,1],[2],[940,8]] ?_ ?_
 ·intro a h8 S
  refine cT S (nxD (qK S rfl (Yt false _ [] _ (Rd.nil _ _ _ _) (by simp)) M ?_)); intro a w4 S hK M
  refine go [[900,0],[0,1],[5]] ?_; intro a w5 S M
  refine Jr S rfl (rA_ 11 0 M) rT_ ?_
  have hB' := M.below
  clear S M
  (suffices hk : k = 11 by (subst hk; exact ⟨rfl, hB'⟩)
   omega)
 intro a h8 S
 refine gq [[3,1,1],[2],[940,11]] ?_ ?_
 ·intro a h11 S
  refine cT S (nxD (JG (ps := [(0, .const (.int .i64 0)), (1, .const (.int .i64 1)), (2, .const (.int .i64 2)), (3, .const (.int .i64 3)), (4, .const (.int .i64 4))]) (e := 3) (sz := 1) (zl := [.int .i64 0, .int .i64 0, .int .i64 0, .int .i64 0, .int .i64 0]) (cs := [_, _, _, _, _]) S M rfl rfl k_ rfl (rfl) ?_)); intro a w6 bZ S M hB
  refine qK S rfl (Yt true _ [0, 1, 2, 3, 4] _ (M.sliceAt 0 rfl (M.cellsAt (k := 5) 0 rfl rfl) rfl (Nat.le_refl _) (by grind [maxLen])) d_) M ?_; intro a w7 S hK M
  refine go [[900,1],[0,1],[5]] ?_; intro a w8 S M
  refine Jr S rfl (rA_ 11 1 M) rT_ ?_
  have hB' := M.below
  clear S M
  (suffices hk : k = 2 by (subst hk; exact ⟨rfl, hB'⟩)
   omega)
 intro a h11 S
 refine gq [[3,1,1],[2],[940,15]] ?_ ?_
 ·intro a h15 S
  refine cT S (nxD (JG (ps := [(0, .const (.int .i64 0)), (1, .const (.int .i64 1)), (2, .const (.int .i64 4)), (3, .const (.int .i64 5))]) (e := 3) (sz := 1) (zl := Kh) (cs := [_, _, _, _]) S M rfl rfl k_ rfl (rfl) ?_)); intro a w9 bZ S M hB
  refine qK S rfl (Yt false _ [0, 1, 4, 5] _ (M.sliceAt 0 rfl (M.cellsAt (k := 4) 0 rfl rfl) rfl (Nat.le_refl _) (by grind [maxLen])) d_) M ?_; intro a w10 S hK M
  refine go [[900,1],[0,1],[5]] ?_; intro a w11 S M
  refine Jr S rfl (rA_ 11 1 M) rT_ ?_
  have hB' := M.below
  clear S M
  (suffices hk : k = 3 by (subst hk; exact ⟨rfl, hB'⟩)
   omega)
 intro a h15 S
 refine gq [[3,1,1],[2],[940,19]] ?_ ?_
 ·intro a h19 S
  refine cT S (nxD (JG (ps := [(0, .const (.int .i64 0)), (1, .const (.int .i64 7)), (2, .const (.int .i64 8)), (3, .const (.int .i64 9))]) (e := 3) (sz := 1) (zl := Kh) (cs := [_, _, _, _]) S M rfl rfl k_ rfl (rfl) ?_)); intro a w12 bZ S M hB
  refine qK S rfl (Yt true _ [0, 7, 8, 9] _ (M.sliceAt 0 rfl (M.cellsAt (k := 4) 0 rfl rfl) rfl (Nat.le_refl _) (by grind [maxLen])) d_) M ?_; intro a w13 S hK M
  refine go [[900,1],[0,1],[5]] ?_; intro a w14 S M
  refine Jr S rfl (rA_ 11 1 M) rT_ ?_
  have hB' := M.below
  clear S M
  (suffices hk : k = 4 by (subst hk; exact ⟨rfl, hB'⟩)
   omega)
 intro a h19 S
 refine gq [[3,1,1],[2],[940,23]] ?_ ?_
 ·intro a h23 S
  refine cT S (nxD (JG (ps := [(0, .const (.int .i64 0)), (1, .const (.int .i64 6))]) (e := 3) (sz := 1) (zl := VW) (cs := [_, _]) S M rfl rfl k_ rfl (rfl) ?_)); intro a w15 bZ S M hB
  refine qK S rfl (Yt false _ [0, 6] _ (M.sliceAt 0 rfl (M.cellsAt (k := 2) 0 rfl rfl) rfl (Nat.le_refl _) (by grind [maxLen])) d_) M ?_; intro a w16 S hK M
  refine go [[900,1],[0,1],[5]] ?_; intro a w17 S M
  refine Jr S rfl (rA_ 11 1 M) rT_ ?_
  have hB' := M.below
  clear S M
  (suffices hk : k = 5 by (subst hk; exact ⟨rfl, hB'⟩)
   omega)
 intro a h23 S
 refine gq [[3,1,1],[2],[940,27]] ?_ ?_
 ·intro a h27 S
  refine cT S (nxD (JG (ps := [(0, .const (.int .i64 0)), (1, .const (.int .i64 6))]) (e := 3) (sz := 1) (zl := VW) (cs := [_, _]) S M rfl rfl k_ rfl (rfl) ?_)); intro a w18 bZ S M hB
  refine qK S rfl (Yt true _ [0, 6] _ (M.sliceAt 0 rfl (M.cellsAt (k := 2) 0 rfl rfl) rfl (Nat.le_refl _) (by grind [maxLen])) d_) M ?_; intro a w19 S hK M
  refine go [[900,1],[0,1],[5]] ?_; intro a w20 S M
  refine Jr S rfl (rA_ 11 1 M) rT_ ?_
  have hB' := M.below
  clear S M
  (suffices hk : k = 6 by (subst hk; exact ⟨rfl, hB'⟩)
   omega)
 intro a h27 S
 refine gq [[4,1,1],[2],[940,31]] ?_ ?_
 ·intro a h31 S
  refine gp [[6]] ?_; intro a S
  refine JG (ps := [(0, .const (.int .i64 0))]) (e := 3) (sz := 1) (zl := [.int .i64 0]) (cs := [_]) S M rfl rfl k_ rfl (rfl) ?_; intro a w21 bZ S M hB
  refine qK S rfl (Yt false _ [0] _ (M.sliceAt 0 rfl (M.cellsAt (k := 1) 0 rfl rfl) rfl (Nat.le_refl _) m_) d_) M ?_; intro a w22 S hK M
  refine go [[900,1],[0,1],[5]] ?_; intro a w23 S M
  refine Jr S rfl (rA_ 11 1 M) rT_ ?_
  have hB' := M.below
  clear S M
  (suffices hk : k = 7 by (subst hk; exact ⟨rfl, hB'⟩)
   assumption)
 intro a h31 S
 refine gq [[2,1,1],[2],[940,31]] ?_ ?_
 ·intro a h31 S
  refine cT S (nxD (JG (ps := [(0, .const (.int .i64 0))]) (e := 3) (sz := 1) (zl := [.int .i64 0]) (cs := [_]) S M rfl rfl k_ rfl (rfl) ?_)); intro a w24 bZ S M hB
  refine qK S rfl (Yt false _ [0] _ (M.sliceAt 0 rfl (M.cellsAt (k := 1) 0 rfl rfl) rfl (Nat.le_refl _) m_) d_) M ?_; intro a w25 S hK M
  refine go [[900,1],[0,1],[5]] ?_; intro a w26 S M
  refine Jr S rfl (rA_ 11 1 M) rT_ ?_
  have hB' := M.below
  clear S M
  (suffices hk : k = 8 by (subst hk; exact ⟨rfl, hB'⟩)
   assumption)
 intro a h31 S
 refine gq [[3,1,1],[2],[940,36]] ?_ ?_
 ·intro a h36 S
  refine cT S (nxD (JG (ps := [(0, .const (.int .i64 0))]) (e := 3) (sz := 1) (zl := [.int .i64 0]) (cs := [_]) S M rfl rfl k_ rfl (rfl) ?_)); intro a w27 bZ S M hB
  refine qK S rfl (Yt true _ [0] _ (M.sliceAt 0 rfl (M.cellsAt (k := 1) 0 rfl rfl) rfl (Nat.le_refl _) m_) d_) M ?_; intro a w28 S hK M
  refine go [[900,1],[0,1],[5]] ?_; intro a w29 S M
  refine Jr S rfl (rA_ 11 1 M) rT_ ?_
  have hB' := M.below
  clear S M
  (suffices hk : k = 9 by (subst hk; exact ⟨rfl, hB'⟩)
   assumption)
 intro a h36 S
 refine gq [[3,1,1],[2],[943,40]] ?_ ?_
 ·intro a h40 S
  refine gp [[6]] ?_; intro a S
  refine qB_ [(0, 1), (1, 10)] Ji6 S ?_
  refine go [[900,0],[0,1],[3]] ?_; intro a w33 S M
  refine Jr S rfl (rA_ 11 0 M) rT_ ?_
  have hB' := M.below
  clear S M
  (have e1 : G8 k = false := by unfold G8; rw [decide_eq_false o_]
   have e2 : vK k = false := by unfold vK; simp; omega
   have e3 : Ky k = [] := by unfold Ky; (repeat rw [if_neg o_])
   unfold yN; rw [e1, e2, e3]; exact ⟨rfl, hB'⟩)
 intro a h40 S
 refine cT S (nxD (JG (ps := [(0, .const (.int .i64 0)), (1, .const (.int .i64 5))]) (e := 3) (sz := 1) (zl := VW) (cs := [_, _]) S M rfl rfl k_ rfl (rfl) ?_)); intro a w30 bZ S M hB
 refine qK S rfl (Yt false _ [0, 5] _ (M.sliceAt 0 rfl (M.cellsAt (k := 2) 0 rfl rfl) rfl (Nat.le_refl _) m_) d_) M ?_; intro a w31 S hK M
 refine go [[900,1],[0,1],[5]] ?_; intro a w32 S M
 refine Jr S rfl (rA_ 11 1 M) rT_ ?_
 have hB' := M.below
 clear S M
 (suffices hk : k = 10 by (subst hk; exact ⟨rfl, hB'⟩)
  assumption)
def VX (f t : Int) (d : Bool) : Bool := if d then decide (f = 0 ∧ t ≠ 0 ∧ 0 ≤ t ∧ t ≤ 4) else decide (t = 0 ∧ f ≠ 0 ∧ 0 ≤ f ∧ f ≤ 4)
theorem Jaz (m : Msg) (va : Option Addr) (vn vc : Nat) (d : Bool) (w : World) : CQ 71 #[.agg (m.cells (.slice va vn vc)), .bool d] w (.bool (VX m.frm m.to d)) := by
 have M := Mem.start w
 have key : ∀ (b : Bool) (P : Prop) [Decidable P], (b = true ↔ P) → b = decide P := fun b P _ h => by grind
 refine qI Tryz.func71 31 ?_; intro a S
 refine nxD (qW_ S M ?_); intro a w1 b1 S M hB
 refine go [[0,1],[3],[920],[921,2,1,3,1,1,1],[5,1,1],[2]] ?_; intro a w2 S M
 refine Jm (t := 12) S rfl ?_ ?_
 ·intro h12 S
  refine gq [[5,1,1,1],[943,19]] ?_ ?_
  ·intro a h19 S
   refine gp [[0,0,0,1,1,0,0,1,1,0,0,1,1],[3],[930]] ?_
   refine ⟨Jb ?_, M.below⟩; grind [VX]
  intro a h19 S
  refine gq [[0,1,1,1,1],[943,23]] ?_ ?_
  ·intro a h23 S
   refine gp [[0,0,0,1,1,0,0,1,1],[3],[930]] ?_
   refine ⟨Jb ?_, M.below⟩; grind [VX]
  intro a h23 S
  refine gq [[0,1,1,1,1],[940,27]] ?_ ?_
  ·intro a h27 S
   refine gp [[0,1,1,1,1],[3],[930]] ?_
   refine ⟨Jb ?_, M.below⟩; grind [VX]
  intro a h27 S
  refine gp [[0,0,0,1,1],[3],[930]] ?_
  refine ⟨Jb ?_, M.below⟩; grind [VX]
 intro h12 S
 refine gi [[1],[920],[921,3,1,2,1,1,1],[4,1,1,1],[943,19]] ?_ ?_
 ·intro a w3 h19 S M
  refine gp [[0,0,0,1,1,0,0,1,1,0,0,1,1],[3],[930]] ?_
  refine ⟨Jb ?_, M.below⟩; grind [VX]
 intro a w3 h19 S M
 refine gq [[0,1,1,1,1],[943,23]] ?_ ?_
 ·intro a h23 S
  refine gp [[0,0,0,1,1,0,0,1,1],[3],[930]] ?_
  refine ⟨Jb ?_, M.below⟩; grind [VX]
 intro a h23 S
 refine gq [[0,1,1,1,1],[940,27]] ?_ ?_
 ·intro a h27 S
  refine gp [[0,1,1,1,1],[3],[930]] ?_
  refine ⟨Jb ?_, M.below⟩; grind [VX]
 intro a h27 S
 refine gp [[0,0,0,1,1],[3],[930]] ?_
 refine ⟨Jb ?_, M.below⟩; grind [VX]
def Msg.same (a b : Msg) (x y : List Wr) : Bool :=
 a.kind == b.kind && a.frm == b.frm && a.to == b.to && a.inc == b.inc && a.your == b.your && a.name.eqb b.name && a.n == b.n && a.op == b.op && a.block == b.block && a.val.eqb b.val && a.e == b.e && a.yes == b.yes && a.give == b.give && a.take == b.take && vx x y
theorem Msg.same_iff {a b : Msg} {x y : List Wr} : a.same b x y = true ↔ a = b ∧ x = y := by
 cases a; cases b
 grind [Msg.same, Nm.eqb_iff, V8.eqb_iff, Zm]
theorem Jdu (p q : Msg) (va vb : Value) (x y : List Wr) (w : World) (hx : Ws 0 w.heap.size w va x) (hy : Ws 0 w.heap.size w vb y) :
 CQ 72 #[.agg (p.cells va), .agg (q.cells vb)] w (.bool (p.same q x y)) := by
 obtain ⟨aa, ca, rfl, -, -⟩ := hx.form
 obtain ⟨ab, cb, rfl, -, -⟩ := hy.form
 have M := Mem.start w
 generalize hr : p.same q x y = R
 refine qI Tryz.func72 108 ?_; intro a S
 refine nxD (qW_ S M ?_); intro a w1 b1 S M hB
 refine qW_ S M ?_; intro a w2 b2 S M hB
 refine gp [[0,1],[4,1,2,1,1,1,1]] ?_; intro a S
 refine Jm (t := 10) S rfl ?_ ?_
 ·intro h10 S
  refine gp [[0,0,0,0,0,0,1,1,0,0,0,0,0,1,1,0,0,0,0,0,1,1,0,0,0,0,0,1,1,0,0,0,0,0,1,1,0,0,0,0,0,1,1,0,0,0,0,0,1,1,0,0,0,0,0,1,1,0,0,0,0,0,1,1,0,0,0,0,0,1,1,0,0,0,0,0,1,1,0,0,0,0,0,1,1,0,0,0,0,0,1,1,0,0,0,0,0,1,1],[3],[930]] ?_
  refine ⟨Jb ?_, M.below⟩; grind [Msg.same]
 intro h10 S
 refine gp [[0,2,2,2,1,1,1,1]] ?_; intro a S
 refine Jm (t := 17) S rfl ?_ ?_
 ·intro h17 S
  refine gp [[0,0,0,0,0,0,1,1,0,0,0,0,0,1,1,0,0,0,0,0,1,1,0,0,0,0,0,1,1,0,0,0,0,0,1,1,0,0,0,0,0,1,1,0,0,0,0,0,1,1,0,0,0,0,0,1,1,0,0,0,0,0,1,1,0,0,0,0,0,1,1,0,0,0,0,0,1,1,0,0,0,0,0,1,1,0,0,0,0,0,1,1],[3],[930]] ?_
  refine ⟨Jb ?_, M.below⟩; grind [Msg.same]
 intro h17 S
 refine gp [[0,3,2,3,1,1,1,1]] ?_; intro a S
 refine Jm (t := 24) S rfl ?_ ?_
 ·intro h24 S
  refine gp [[0,0,0,0,0,0,1,1,0,0,0,0,0,1,1,0,0,0,0,0,1,1,0,0,0,0,0,1,1,0,0,0,0,0,1,1,0,0,0,0,0,1,1,0,0,0,0,0,1,1,0,0,0,0,0,1,1,0,0,0,0,0,1,1,0,0,0,0,0,1,1,0,0,0,0,0,1,1,0,0,0,0,0,1,1],[3],[930]] ?_
  refine ⟨Jb ?_, M.below⟩; grind [Msg.same]
 intro h24 S
 refine gp [[0,4,2,4,1,1,1,1]] ?_; intro a S
 refine Jm (t := 31) S rfl ?_ ?_
 ·intro h31 S
  refine gp [[0,0,0,0,0,0,1,1,0,0,0,0,0,1,1,0,0,0,0,0,1,1,0,0,0,0,0,1,1,0,0,0,0,0,1,1,0,0,0,0,0,1,1,0,0,0,0,0,1,1,0,0,0,0,0,1,1,0,0,0,0,0,1,1,0,0,0,0,0,1,1,0,0,0,0,0,1,1],[3],[930]] ?_
  refine ⟨Jb ?_, M.below⟩; grind [Msg.same]
 intro h31 S
 refine gp [[0,5,2,5,1,1,1,1]] ?_; intro a S
 refine Jm (t := 38) S rfl ?_ ?_
 ·intro h38 S
  refine gp [[0,0,0,0,0,0,1,1,0,0,0,0,0,1,1,0,0,0,0,0,1,1,0,0,0,0,0,1,1,0,0,0,0,0,1,1,0,0,0,0,0,1,1,0,0,0,0,0,1,1,0,0,0,0,0,1,1,0,0,0,0,0,1,1,0,0,0,0,0,1,1],[3],[930]] ?_
  refine ⟨Jb ?_, M.below⟩; grind [Msg.same]
 intro h38 S
 refine gp [[0,6],[902,1,3],[0,6],[902,0,3]] ?_; intro a S
 refine qY S (VI k_ S rfl rfl (fun w => VG 9998 ⟨_, _, _⟩ ⟨_, _, _⟩ w)) ?_
 refine gp [[0,1,1]] ?_; intro a S
 refine Jm (t := 45) S rfl ?_ ?_
 ·intro h45 S
  refine gp [[0,0,0,0,0,0,1,1,0,0,0,0,0,1,1,0,0,0,0,0,1,1,0,0,0,0,0,1,1,0,0,0,0,0,1,1,0,0,0,0,0,1,1,0,0,0,0,0,1,1,0,0,0,0,0,1,1,0,0,0,0,0,1,1],[3],[930]] ?_
  refine ⟨Jb ?_, M.below⟩; rw [← hr]; clear S M; simp [Msg.same, *]
 intro h45 S
 refine gp [[0,9,2,9,1,1,1,1]] ?_; intro a S
 refine Jm (t := 52) S rfl ?_ ?_
 ·intro h52 S
  refine gp [[0,0,0,0,0,0,1,1,0,0,0,0,0,1,1,0,0,0,0,0,1,1,0,0,0,0,0,1,1,0,0,0,0,0,1,1,0,0,0,0,0,1,1,0,0,0,0,0,1,1,0,0,0,0,0,1,1],[3],[930]] ?_
  refine ⟨Jb ?_, M.below⟩; grind [Msg.same]
 intro h52 S
 refine gp [[0,10,2,10,1,1,1,1]] ?_; intro a S
 refine Jm (t := 59) S rfl ?_ ?_
 ·intro h59 S
  refine gp [[0,0,0,0,0,0,1,1,0,0,0,0,0,1,1,0,0,0,0,0,1,1,0,0,0,0,0,1,1,0,0,0,0,0,1,1,0,0,0,0,0,1,1,0,0,0,0,0,1,1],[3],[930]] ?_
  refine ⟨Jb ?_, M.below⟩; rw [← hr]; clear S M; simp [Msg.same, *]
 intro h59 S
 refine gp [[0,11,2,11,1,1,1,1]] ?_; intro a S
 refine Jm (t := 66) S rfl ?_ ?_
 ·intro h66 S
  refine gp [[0,0,0,0,0,0,1,1,0,0,0,0,0,1,1,0,0,0,0,0,1,1,0,0,0,0,0,1,1,0,0,0,0,0,1,1,0,0,0,0,0,1,1],[3],[930]] ?_
  refine ⟨Jb ?_, M.below⟩; rw [← hr]; clear S M; simp [Msg.same, *]
 intro h66 S
 refine gp [[0,12],[902,1,8],[0,12],[902,0,8]] ?_; intro a S
 refine qY S (VI k_ S rfl rfl (fun w => jP 9998 ⟨_, _, _, _, _, _, _, _⟩ ⟨_, _, _, _, _, _, _, _⟩ w)) ?_
 refine gp [[0,1,1]] ?_; intro a S
 refine Jm (t := 73) S rfl ?_ ?_
 ·intro h73 S
  refine gp [[0,0,0,0,0,0,1,1,0,0,0,0,0,1,1,0,0,0,0,0,1,1,0,0,0,0,0,1,1,0,0,0,0,0,1,1],[3],[930]] ?_
  refine ⟨Jb ?_, M.below⟩; rw [← hr]; clear S M; simp [Msg.same, *]
 intro h73 S
 refine gp [[0,20,2,20,1,1,1,1]] ?_; intro a S
 refine Jm (t := 80) S rfl ?_ ?_
 ·intro h80 S
  refine gp [[0,0,0,0,0,0,1,1,0,0,0,0,0,1,1,0,0,0,0,0,1,1,0,0,0,0,0,1,1],[3],[930]] ?_
  refine ⟨Jb ?_, M.below⟩; rw [← hr]; clear S M; simp [Msg.same, *]
 intro h80 S
 refine gp [[0,21,2,21,1]] ?_; intro a S
 refine qY S (GJ k_ S rfl rfl) ?_
 refine gp [[0,1,1]] ?_; intro a S
 refine Jm (t := 87) S rfl ?_ ?_
 ·intro h87 S
  refine gp [[0,0,0,0,0,0,1,1,0,0,0,0,0,1,1,0,0,0,0,0,1,1],[3],[930]] ?_
  refine ⟨Jb ?_, M.below⟩; rw [← hr]; clear S M; simp [Msg.same, *]
 intro h87 S
 refine gp [[0,22,2,22,1,1,1,1]] ?_; intro a S
 refine Jm (t := 94) S rfl ?_ ?_
 ·intro h94 S
  refine gp [[0,0,0,0,0,0,1,1,0,0,0,0,0,1,1],[3],[930]] ?_
  refine ⟨Jb ?_, M.below⟩; rw [← hr]; clear S M; simp [Msg.same, *]
 intro h94 S
 refine gp [[0,23,2,23,1,1,1,1]] ?_; intro a S
 refine Jm (t := 101) S rfl ?_ ?_
 ·intro h101 S
  refine gp [[0,0,0,0,0,0,1,1],[3],[930]] ?_
  refine ⟨Jb ?_, M.below⟩; rw [← hr]; clear S M; simp [Msg.same, *]
 intro h101 S
 refine gp [[0,24,2,24,1]] ?_; intro a S
 refine qK S rfl (UP _ _ x y _ (M.argW hx) (M.argW hy)) M ?_; intro a w3 S hK M
 refine gp [[0,1,1],[3],[930]] ?_
 refine ⟨Jb ?_, M.below⟩; rw [← hr]; clear S M; simp [Msg.same, *]
end
def YO (h : Nat → Bool) (j : Nat) (m : Msg) : Msg :=
 { m with
   name := if (decide (0 < j) && !h 0) = true then ⟨0, 0, 0⟩ else m.name
   n := if (decide (1 < j) && !h 1) = true then 0 else m.n
   op := if (decide (2 < j) && !h 2) = true then 0 else m.op
   block := if (decide (3 < j) && !h 3) = true then 0 else m.block
   val := if (decide (4 < j) && !h 4) = true then ⟨0, 0, 0, 0, 0, 0, 0, 0⟩ else m.val
   e := if (decide (5 < j) && !h 5) = true then 0 else m.e
   yes := if (decide (6 < j) && !h 6) = true then false else m.yes
   give := if (decide (7 < j) && !h 7) = true then 0 else m.give
   take := if (decide (8 < j) && !h 8) = true then 0 else m.take }
def YZ (h : Nat → Bool) (j : Nat) (v : Value) : Value := if (decide (9 < j) && !h 9) = true then .slice none 0 0 else v
def zf (h : Nat → Bool) (x : List Wr) : List Wr := if h 9 then x else []
abbrev vX : Msg := ⟨0, 0, 0, 0, 0, ⟨0, 0, 0⟩, 0, 0, 0, ⟨0, 0, 0, 0, 0, 0, 0, 0⟩, 0, false, 0, 0⟩
theorem JcA {h : Nat → Bool} {j : Nat} (hj : h j = true) (m : Msg) : YO h (j + 1) m = YO h j m := by
 have e : ∀ i, (decide (i < j + 1) && !h i) = (decide (i < j) && !h i) := fun i => by
  grind
 unfold YO; simp only [e]
theorem Jcz {h : Nat → Bool} {j : Nat} (hj : h j = true) (v : Value) : YZ h (j + 1) v = YZ h j v := by
 grind [YZ]
def JgH (h : Nat → Bool) (m : Msg) (va : Option Addr) (vn vc : Nat) (x : List Wr) (w : World) (e : Ending) (w' : World) : Prop :=
 ∃ ad l c, e = .returned (.agg ((YO h 10 m).cells (.slice ad l c))) ∧ Below w.heap.size w w' ∧ ((ad = none ∧ l = 0 ∧ c = 0 ∧ zf h x = []) ∨ (ad = va ∧ l = vn ∧ c = vc ∧ zf h x = x))
theorem JgB (m : Msg) (va : Option Addr) (vn vc : Nat) (x : List Wr) (d : Bool) (h : Nat → Bool) (w : World) :
 CT 73 #[.agg (m.cells (.slice va vn vc)), .agg (kdL d h).toArray] w (JgH h m va vn vc x w) := by
 have M := Mem.start w
 refine qI Tryz.func73 50 ?_; intro a S
 refine nxD (qW_ S M ?_); intro a w1 bA S M hB
 refine qW_ S M ?_; intro a w2 bK S M hB
 refine qN S M cz3 ?_; intro a w3 bO S M hB
 refine gp [[4],[902,2,24]] ?_; intro a S
 refine qN S M cz3 ?_; intro a w4 bB S M hB
 refine go [[900,0],[5,1],[3]] ?_; intro a w5 S M
 refine Jc (fun q a w' => ∃ (j : Nat), j ≤ 10 ∧ q = 10 - j ∧ Jk 50 a [(3, p_ bK), (4, p_ bO), (5, p_ bB), (8, .int .i64 (j : Int))] ∧ Mem w w' [.blk bB ((YO h j m).cells (YZ h j (.slice va vn vc))) 46, .blk bO (vX.cells (.slice none 0 0)) 46, .blk bK (kdL d h).toArray 164]) (10) ?_ ?_
 ·skip
  exact ⟨0, by omega, rfl, S.sub _ rfl, M.drop 3⟩
 intro m a wl
 rintro ⟨j, hj, rfl, S, M⟩
 refine gq [[2,1],[3],[943,9]] ?_ ?_
 ·intro a h9 S
  refine gp [[7]] ?_; intro a S
  obtain rfl : j = 10 := by omega
  obtain ⟨ad, l, c, hbw, hbx⟩ : ∃ ad l c, YZ h 10 (.slice va vn vc) = .slice ad l c ∧ ((ad = none ∧ l = 0 ∧ c = 0 ∧ zf h x = []) ∨ (ad = va ∧ l = vn ∧ c = vc ∧ zf h x = x)) := by
   grind [YZ, zf]
  rw [hbw] at M
  refine go [[1],[902,0,24],[900,1],[3]] ?_; intro a w16 S M
  refine Vb S rfl (rA_ 24 1 M) ?_
  exact ⟨ad, l, c, rfl, M.below, hbx⟩
 intro a h9 S
 refine gp [[7,1,1],[5,1,2],[906,10,1]] ?_; intro a S
 refine qY S (Jf S k_ rfl (M.cell 2 rfl (JiR o_))) ?_; intro a S
 refine nxC (Js (t := 14) S rfl ?_ ?_)
 ·intro h14 S
  refine gp [[6],[901],[0,1],[2]] ?_; intro a S
  refine ⟨10 - (j + 1), by omega, j + 1, by omega, rfl, S.sub _ rfl, ?_⟩
  grind [JcA, Jcz]
 intro h14 S
 refine gq [[5,1],[5,1,1],[2],[940,16]] ?_ ?_
 ·intro a h16 S
  refine cT S (wp_region_lit (qB_ ZU ZA S ?_)); intro a S
  refine go [[0,6],[900,0],[5],[901],[0,1],[2]] ?_; intro a w6 S M
  refine ⟨10 - (j + 1), by omega, j + 1, by omega, rfl, S.sub _ rfl, ?_⟩
  (suffices hj0 : j = 0 by (subst hj0; grind [YO, YZ])
   omega)
 intro a h16 S
 refine gq [[3,1,1],[2],[940,20]] ?_ ?_
 ·intro a h20 S
  refine go [[2,9],[900,0],[5],[901],[0,1],[2]] ?_; intro a w7 S M
  refine ⟨10 - (j + 1), by omega, j + 1, by omega, rfl, S.sub _ rfl, ?_⟩
  (suffices hj0 : j = 1 by grind [YO, YZ]
   omega)
 intro a h20 S
 refine gq [[3,1,1],[2],[940,23]] ?_ ?_
 ·intro a h23 S
  refine go [[2,10],[900,0],[5],[901],[0,1],[2]] ?_; intro a w8 S M
  refine ⟨10 - (j + 1), by omega, j + 1, by omega, rfl, S.sub _ rfl, ?_⟩
  (suffices hj0 : j = 2 by grind [YO, YZ]
   omega)
 intro a h23 S
 refine gq [[3,1,1],[2],[940,26]] ?_ ?_
 ·intro a h26 S
  refine go [[2,11],[900,0],[5],[901],[0,1],[2]] ?_; intro a w9 S M
  refine ⟨10 - (j + 1), by omega, j + 1, by omega, rfl, S.sub _ rfl, ?_⟩
  (suffices hj0 : j = 3 by grind [YO, YZ]
   omega)
 intro a h26 S
 refine gq [[3,1,1],[2],[940,29]] ?_ ?_
 ·intro a h29 S
  refine cT S (wp_region_lit (qY S (V5 (ps := []) (sz := 1) (z := Ki) (cs := [_, _, _, _, _, _, _, _]) S k_ rfl rfl) ?_)); intro a S
  refine go [[0,12],[900,0],[5],[901],[0,1],[2]] ?_; intro a w10 S M
  refine ⟨10 - (j + 1), by omega, j + 1, by omega, rfl, S.sub _ rfl, ?_⟩
  (suffices hj0 : j = 4 by (subst hj0; exact M.eqH (by simp [YO, YZ, h14]))
   omega)
 intro a h29 S
 refine gq [[3,1,1],[2],[940,33]] ?_ ?_
 ·intro a h33 S
  refine go [[2,20],[900,0],[5],[901],[0,1],[2]] ?_; intro a w11 S M
  refine ⟨10 - (j + 1), by omega, j + 1, by omega, rfl, S.sub _ rfl, ?_⟩
  (suffices hj0 : j = 5 by (subst hj0; exact M.eqH (by simp [YO, YZ, h14]))
   omega)
 intro a h33 S
 refine gq [[3,1,1],[2],[940,36]] ?_ ?_
 ·intro a h36 S
  refine go [[2,21],[900,0],[5],[901],[0,1],[2]] ?_; intro a w12 S M
  refine ⟨10 - (j + 1), by omega, j + 1, by omega, rfl, S.sub _ rfl, ?_⟩
  (suffices hj0 : j = 6 by (subst hj0; exact M.eqH (by simp [YO, YZ, h14]))
   omega)
 intro a h36 S
 refine gq [[3,1,1],[2],[940,39]] ?_ ?_
 ·intro a h39 S
  refine go [[2,22],[900,0],[5],[901],[0,1],[2]] ?_; intro a w13 S M
  refine ⟨10 - (j + 1), by omega, j + 1, by omega, rfl, S.sub _ rfl, ?_⟩
  (suffices hj0 : j = 7 by (subst hj0; exact M.eqH (by simp [YO, YZ, h14]))
   omega)
 intro a h39 S
 refine gq [[3,1,1],[2],[940,42]] ?_ ?_
 ·intro a h42 S
  refine go [[2,23],[900,0],[5],[901],[0,1],[2]] ?_; intro a w14 S M
  refine ⟨10 - (j + 1), by omega, j + 1, by omega, rfl, S.sub _ rfl, ?_⟩
  (suffices hj0 : j = 8 by (subst hj0; exact M.eqH (by simp [YO, YZ, h14]))
   omega)
 intro a h42 S
 refine gq [[3,1,1],[2],[943,45]] ?_ ?_
 ·intro a h45 S
  refine gp [[6],[901],[0,1],[2]] ?_; intro a S
  refine ⟨10 - (j + 1), by omega, j + 1, by omega, rfl, S.sub _ rfl, ?_⟩
  (exfalso; omega)
 intro a h45 S
 refine go [[2,24],[900,0],[5],[901],[0,1],[2]] ?_; intro a w15 S M
 refine ⟨10 - (j + 1), by omega, j + 1, by omega, rfl, S.sub _ rfl, ?_⟩
 (suffices hj0 : j = 9 by (subst hj0; exact M.eqH (by simp [YO, YZ, h14]))
  omega)
end Go.Proofs.YtocppoflhllelaaGreat
