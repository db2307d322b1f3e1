/-
  What PartStrict rests on, part 22.
-/
import Derived.Test.YtocppoflhllelaaGreatP18
namespace Go.Proofs.YtocppoflhllelaaGreat
open Go.RowKit Go.Sort
structure Dr where
 name : Nm
 phase : Int
 shards : Int
 yes : Int
 acks : Int
 cs : Int
 ct : Int
abbrev Dr.cells (d : Dr) (wv : Value) : Array Value := #[.int .i64 d.name.stamp, .int .i64 d.name.inc, .int .i64 d.name.try_, .int .i8 d.phase, .int .i64 d.shards, .int .i64 d.yes, .int .i64 d.acks, .int .i64 d.cs, .int .i64 d.ct, wv]
abbrev Dl := List (Dr × List Wr)
def zDr : Dr := ⟨⟨0, 0, 0⟩, 0, 0, 0, 0, 0, 0⟩
def Jiq (y s : Int) : Bool := Z9 y s == 0
def Jkd (n : Int) (k : Nat) : Bool := Qu (n / 2 ^ k) 1 == 1
def Jgw (s t shards : Int) : Bool := if s = -1 then t == 0 else decide (0 ≤ s ∧ s < 8 ∧ 1 ≤ t ∧ t ≤ 4) && Jkd shards t.toNat
def Jhk (x : List Wr) (s : Int) : Bool := Jv x && (x.isEmpty || decide (0 ≤ s))
def Jka (q : Dr × List Wr) : Bool :=
 q.1.name.named && decide (1 ≤ q.1.phase ∧ q.1.phase ≤ 3) && Z3 q.1.shards && Jiq q.1.yes q.1.shards && Jiq q.1.acks q.1.shards && (q.1.phase == 1 || q.1.yes == q.1.shards) && (q.1.phase == 3 || q.1.acks == 0) && Jgw q.1.cs q.1.ct q.1.shards && Jhk q.2 q.1.cs
def Jdz : Dl → Bool
 | [] => true
 | [_] => true
 | p :: q :: l => p.1.name.less q.1.name && Jdz (q :: l)
def JkB (ds : Dl) : Bool := decide (ds.length ≤ 8) && ds.all Jka && Jdz ds
theorem Nm.less_iff {a b : Nm} : a.less b = true ↔ a.stamp < b.stamp ∨ (a.stamp = b.stamp ∧ (a.inc < b.inc ∨ (a.inc = b.inc ∧ a.try_ < b.try_))) := by grind [Nm.less]
theorem Nm.less_trans {a b c : Nm} (h1 : a.less b = true) (h2 : b.less c = true) : a.less c = true := by
 grind [Nm.less_iff]
theorem Nm.less_irr (a : Nm) : a.less a = false := by
 grind [Nm.less_iff]
theorem Nm.less_tri {a b : Nm} (h1 : a.less b = false) (h2 : b.less a = false) : a = b := by
 have h1' : ¬ a.less b = true := by grind
 have h2' : ¬ b.less a = true := by grind
 rw [Nm.less_iff] at h1' h2'
 obtain ⟨a1, a2, a3⟩ := a; obtain ⟨b1, b2, b3⟩ := b
 grind
def JkG (nm : Nm) (ds : Dl) : Option Nat := ds.findIdx? fun q => q.1.name.eqb nm
theorem Xn (p q : Msg) (va vb : Value) (x y : List Wr) (w : World) (hx : Ws 0 w.heap.size w va x) (hy : Ws 0 w.heap.size w vb y) :
 CQ 38 #[.agg (p.cells va), .agg (q.cells vb)] w (.bool (p.same q x y)) := by
 obtain ⟨aa, ca, rfl, -, -⟩ := hx.form
 obtain ⟨ab, cb, rfl, -, -⟩ := hy.form
 have M := Mem.start w
 generalize hr : p.same q x y = R
 refine qI Tryz.func38 108 ?_; intro a S
 refine nxD (qW_ S M ?_); intro a w1 b1 S M hB
 refine qW_ S M ?_; intro a w2 b2 S M hB
 refine gp [[0,1],[4,1,2,1,1,1,1]] ?_; intro a S
 refine Jm (t := 10) S rfl ?_ ?_
 ·intro h10 S
  refine gp [[0,0,0,0,0,0,1,1,0,0,0,0,0,1,1,0,0,0,0,0,1,1,0,0,0,0,0,1,1,0,0,0,0,0,1,1,0,0,0,0,0,1,1,0,0,0,0,0,1,1,0,0,0,0,0,1,1,0,0,0,0,0,1,1,0,0,0,0,0,1,1,0,0,0,0,0,1,1,0,0,0,0,0,1,1,0,0,0,0,0,1,1,0,0,0,0,0,1,1],[3],[930]] ?_
  refine ⟨Jb ?_, M.below⟩; grind [Msg.same]
 intro h10 S
 refine gp [[0,2,2,2,1,1,1,1]] ?_; intro a S
 refine Jm (t := 17) S rfl ?_ ?_
 ·intro h17 S
  refine gp [[0,0,0,0,0,0,1,1,0,0,0,0,0,1,1,0,0,0,0,0,1,1,0,0,0,0,0,1,1,0,0,0,0,0,1,1,0,0,0,0,0,1,1,0,0,0,0,0,1,1,0,0,0,0,0,1,1,0,0,0,0,0,1,1,0,0,0,0,0,1,1,0,0,0,0,0,1,1,0,0,0,0,0,1,1,0,0,0,0,0,1,1],[3],[930]] ?_
  refine ⟨Jb ?_, M.below⟩; grind [Msg.same]
 intro h17 S
 refine gp [[0,3,2,3,1,1,1,1]] ?_; intro a S
 refine Jm (t := 24) S rfl ?_ ?_
 ·intro h24 S
  refine gp [[0,0,0,0,0,0,1,1,0,0,0,0,0,1,1,0,0,0,0,0,1,1,0,0,0,0,0,1,1,0,0,0,0,0,1,1,0,0,0,0,0,1,1,0,0,0,0,0,1,1,0,0,0,0,0,1,1,0,0,0,0,0,1,1,0,0,0,0,0,1,1,0,0,0,0,0,1,1,0,0,0,0,0,1,1],[3],[930]] ?_
  refine ⟨Jb ?_, M.below⟩; grind [Msg.same]
 intro h24 S
 refine gp [[0,4,2,4,1,1,1,1]] ?_; intro a S
 refine Jm (t := 31) S rfl ?_ ?_
 ·intro h31 S
  refine gp [[0,0,0,0,0,0,1,1,0,0,0,0,0,1,1,0,0,0,0,0,1,1,0,0,0,0,0,1,1,0,0,0,0,0,1,1,0,0,0,0,0,1,1,0,0,0,0,0,1,1,0,0,0,0,0,1,1,0,0,0,0,0,1,1,0,0,0,0,0,1,1,0,0,0,0,0,1,1],[3],[930]] ?_
  refine ⟨Jb ?_, M.below⟩; grind [Msg.same]
 intro h31 S
 refine gp [[0,5,2,5,1,1,1,1]] ?_; intro a S
 refine Jm (t := 38) S rfl ?_ ?_
 ·intro h38 S
  refine gp [[0,0,0,0,0,0,1,1,0,0,0,0,0,1,1,0,0,0,0,0,1,1,0,0,0,0,0,1,1,0,0,0,0,0,1,1,0,0,0,0,0,1,1,0,0,0,0,0,1,1,0,0,0,0,0,1,1,0,0,0,0,0,1,1,0,0,0,0,0,1,1],[3],[930]] ?_
  refine ⟨Jb ?_, M.below⟩; grind [Msg.same]
 intro h38 S
 refine gp [[0,6],[902,1,3],[0,6],[902,0,3]] ?_; intro a S
 refine qY S (VI k_ S rfl rfl (fun w => VG 9998 ⟨_, _, _⟩ ⟨_, _, _⟩ w)) ?_
 refine gp [[0,1,1]] ?_; intro a S
 refine Jm (t := 45) S rfl ?_ ?_
 ·intro h45 S
  refine gp [[0,0,0,0,0,0,1,1,0,0,0,0,0,1,1,0,0,0,0,0,1,1,0,0,0,0,0,1,1,0,0,0,0,0,1,1,0,0,0,0,0,1,1,0,0,0,0,0,1,1,0,0,0,0,0,1,1,0,0,0,0,0,1,1],[3],[930]] ?_
  refine ⟨Jb ?_, M.below⟩; rw [← hr]; clear S M; simp [Msg.same, *]
 intro h45 S
 refine gp [[0,9,2,9,1,1,1,1]] ?_; intro a S
 refine Jm (t := 52) S rfl ?_ ?_
 ·intro h52 S
  refine gp [[0,0,0,0,0,0,1,1,0,0,0,0,0,1,1,0,0,0,0,0,1,1,0,0,0,0,0,1,1,0,0,0,0,0,1,1,0,0,0,0,0,1,1,0,0,0,0,0,1,1,0,0,0,0,0,1,1],[3],[930]] ?_
  refine ⟨Jb ?_, M.below⟩; grind [Msg.same]
 intro h52 S
 refine gp [[0,10,2,10,1,1,1,1]] ?_; intro a S
 refine Jm (t := 59) S rfl ?_ ?_
 ·intro h59 S
  refine gp [[0,0,0,0,0,0,1,1,0,0,0,0,0,1,1,0,0,0,0,0,1,1,0,0,0,0,0,1,1,0,0,0,0,0,1,1,0,0,0,0,0,1,1,0,0,0,0,0,1,1],[3],[930]] ?_
  refine ⟨Jb ?_, M.below⟩; grind [Msg.same]
 intro h59 S
 refine gp [[0,11,2,11,1,1,1,1]] ?_; intro a S
 refine Jm (t := 66) S rfl ?_ ?_
 ·intro h66 S
  refine gp [[0,0,0,0,0,0,1,1,0,0,0,0,0,1,1,0,0,0,0,0,1,1,0,0,0,0,0,1,1,0,0,0,0,0,1,1,0,0,0,0,0,1,1],[3],[930]] ?_
  refine ⟨Jb ?_, M.below⟩; grind [Msg.same]
 intro h66 S
 refine gp [[0,12],[902,1,8],[0,12],[902,0,8]] ?_; intro a S
 refine qY S (VI k_ S rfl rfl (fun w => jP 9998 ⟨_, _, _, _, _, _, _, _⟩ ⟨_, _, _, _, _, _, _, _⟩ w)) ?_
 refine gp [[0,1,1]] ?_; intro a S
 refine Jm (t := 73) S rfl ?_ ?_
 ·intro h73 S
  refine gp [[0,0,0,0,0,0,1,1,0,0,0,0,0,1,1,0,0,0,0,0,1,1,0,0,0,0,0,1,1,0,0,0,0,0,1,1],[3],[930]] ?_
  refine ⟨Jb ?_, M.below⟩; rw [← hr]; clear S M; simp [Msg.same, *]
 intro h73 S
 refine gp [[0,20,2,20,1,1,1,1]] ?_; intro a S
 refine Jm (t := 80) S rfl ?_ ?_
 ·intro h80 S
  refine gp [[0,0,0,0,0,0,1,1,0,0,0,0,0,1,1,0,0,0,0,0,1,1,0,0,0,0,0,1,1],[3],[930]] ?_
  refine ⟨Jb ?_, M.below⟩; rw [← hr]; clear S M; simp [Msg.same, *]
 intro h80 S
 refine gp [[0,21,2,21,1]] ?_; intro a S
 refine qY S (GJ k_ S rfl rfl) ?_
 refine gp [[0,1,1]] ?_; intro a S
 refine Jm (t := 87) S rfl ?_ ?_
 ·intro h87 S
  refine gp [[0,0,0,0,0,0,1,1,0,0,0,0,0,1,1,0,0,0,0,0,1,1],[3],[930]] ?_
  refine ⟨Jb ?_, M.below⟩; rw [← hr]; clear S M; simp [Msg.same, *]
 intro h87 S
 refine gp [[0,22,2,22,1,1,1,1]] ?_; intro a S
 refine Jm (t := 94) S rfl ?_ ?_
 ·intro h94 S
  refine gp [[0,0,0,0,0,0,1,1,0,0,0,0,0,1,1],[3],[930]] ?_
  refine ⟨Jb ?_, M.below⟩; rw [← hr]; clear S M; simp [Msg.same, *]
 intro h94 S
 refine gp [[0,23,2,23,1,1,1,1]] ?_; intro a S
 refine Jm (t := 101) S rfl ?_ ?_
 ·intro h101 S
  refine gp [[0,0,0,0,0,0,1,1],[3],[930]] ?_
  refine ⟨Jb ?_, M.below⟩; rw [← hr]; clear S M; simp [Msg.same, *]
 intro h101 S
 refine gp [[0,24,2,24,1]] ?_; intro a S
 refine qK S rfl (Wb _ _ x y _ (M.argW hx) (M.argW hy)) M ?_; intro a w3 S hK M
 refine gp [[0,1,1],[3],[930]] ?_
 refine ⟨Jb ?_, M.below⟩; rw [← hr]; clear S M; simp [Msg.same, *]
def Msg.flds (m : Msg) : Msg :=
 { kind := m.kind, frm := m.frm, to := m.to, inc := m.inc, your := m.your
   name := if m.kind ≠ 1 ∧ m.kind ≠ 11 then m.name else ⟨0, 0, 0⟩
   n := if m.kind = 2 ∨ m.kind = 3 then m.n else 0
   op := if m.kind = 2 then m.op else 0
   block := if m.kind = 2 then m.block else 0
   val := if (m.kind = 2 ∧ m.op = 1) ∨ (m.kind = 3 ∧ m.e = 0) then m.val else ⟨0, 0, 0, 0, 0, 0, 0, 0⟩
   e := if m.kind = 3 ∨ m.kind = 10 then m.e else 0
   yes := if m.kind = 5 ∨ m.kind = 6 then m.yes else false
   give := if m.kind = 4 then m.give else 0
   take := if m.kind = 4 then m.take else 0 }
def JkE (m : Msg) (x : List Wr) : List Wr := if m.kind = 4 then x else []
def JkF (m : Msg) (v : Value) : Value := if m.kind = 4 then v else .slice none 0 0
theorem Jak (m : Msg) (ad : Option Addr) (l c : Nat) (w : World) : CQ 7 #[.agg (m.cells (.slice ad l c))] w (.bool (decide ((40 : Int) < (l : Int)))) := by
 have M := Mem.start w
 refine qI Tryz.func7 7 ?_; intro a S
 refine nxD (qW_ S M ?_); intro a w1 b1 S M hB
 refine gp [[0,1],[4,24,1],[903,108],[0,1,1],[3],[930]] ?_
 grind
end Go.Proofs.YtocppoflhllelaaGreat
