/-
  What PartStrict rests on, part 4.
-/
import Derived.ChangeKeysEq
import Derived.ProofKit
import Derived.OpenShut
import Derived.JoinedCond
import Derived.Lib.SmallJoins
import Derived.Test.YtocppoflhllelaaGreatP3
namespace Go.Proofs.YtocppoflhllelaaGreat
open Go.RowKit Go.Sort
structure V8 where
 v0 : UInt8
 v1 : UInt8
 v2 : UInt8
 v3 : UInt8
 v4 : UInt8
 v5 : UInt8
 v6 : UInt8
 v7 : UInt8
structure Nm where
 stamp : Int
 inc : Int
 try_ : Int
structure Wr where
 block : Int
 val : V8
structure Msg where
 kind : Int
 frm : Int
 to : Int
 inc : Int
 your : Int
 name : Nm
 n : Int
 op : Int
 block : Int
 val : V8
 e : Int
 yes : Bool
 give : Int
 take : Int
structure Rc where
 kind : Int
 name : Nm
 yes : Bool
 give : Int
 take : Int
 shards : Int
 cs : Int
 ct : Int
 n : Int
abbrev Nm.cells (n : Nm) : Array Value := #[.int .i64 n.stamp, .int .i64 n.inc, .int .i64 n.try_]
abbrev Msg.cells (m : Msg) (wv : Value) : Array Value :=
 #[.int .i8 m.kind, .int .i64 m.frm, .int .i64 m.to, .int .i64 m.inc, .int .i64 m.your, .int .i64 m.name.stamp, .int .i64 m.name.inc, .int .i64 m.name.try_, .int .i64 m.n, .int .i8 m.op, .int .i64 m.block,
  .int .u8 (m.val.v0.toNat : Int), .int .u8 (m.val.v1.toNat : Int), .int .u8 (m.val.v2.toNat : Int), .int .u8 (m.val.v3.toNat : Int), .int .u8 (m.val.v4.toNat : Int), .int .u8 (m.val.v5.toNat : Int), .int .u8 (m.val.v6.toNat : Int), .int .u8 (m.val.v7.toNat : Int), .int .i64 m.e, .bool m.yes, .int .i64 m.give, .int .i64 m.take, wv]
abbrev Rc.cells (r : Rc) (wv : Value) : Array Value :=
 #[.int .i8 r.kind, .int .i64 r.name.stamp, .int .i64 r.name.inc, .int .i64 r.name.try_, .bool r.yes, wv, .int .i64 r.give, .int .i64 r.take, .int .i64 r.shards, .int .i64 r.cs, .int .i64 r.ct, .int .i64 r.n]
def V8.eqb (a b : V8) : Bool := (a.v0.toNat : Int) == (b.v0.toNat : Int) && (a.v1.toNat : Int) == (b.v1.toNat : Int) && (a.v2.toNat : Int) == (b.v2.toNat : Int) && (a.v3.toNat : Int) == (b.v3.toNat : Int) && (a.v4.toNat : Int) == (b.v4.toNat : Int) && (a.v5.toNat : Int) == (b.v5.toNat : Int) && (a.v6.toNat : Int) == (b.v6.toNat : Int) && (a.v7.toNat : Int) == (b.v7.toNat : Int)
theorem V8.eqb_iff {a b : V8} : a.eqb b = true ↔ a = b := by
 cases a; cases b; grind [V8.eqb, Int.ofNat_inj, UInt8.toNat_inj]
def Nm.eqb (a b : Nm) : Bool := a.stamp == b.stamp && a.inc == b.inc && a.try_ == b.try_
theorem Nm.eqb_iff {a b : Nm} : a.eqb b = true ↔ a = b := by
 cases a; cases b; grind [Nm.eqb]
def Wr.eqb (a b : Wr) : Bool := a.block == b.block && a.val.eqb b.val
theorem Wr.eqb_iff {a b : Wr} : a.eqb b = true ↔ a = b := by
 cases a; cases b; simp [Wr.eqb, V8.eqb_iff]
def vx : List Wr → List Wr → Bool
 | [], [] => true
 | a :: x, b :: y => a.eqb b && vx x y
 | _, _ => false
theorem Zm : ∀ {x y : List Wr}, vx x y = true ↔ x = y
 | [], [] => by simp [vx]
 | [], b :: y => by simp [vx]
 | a :: x, [] => by simp [vx]
 | a :: x, b :: y => by simp [vx, Zm (x := x) (y := y), Wr.eqb_iff]
abbrev V8.cellsL (x : V8) : List Value := [.int .u8 (x.v0.toNat : Int), .int .u8 (x.v1.toNat : Int), .int .u8 (x.v2.toNat : Int), .int .u8 (x.v3.toNat : Int), .int .u8 (x.v4.toNat : Int), .int .u8 (x.v5.toNat : Int), .int .u8 (x.v6.toNat : Int), .int .u8 (x.v7.toNat : Int)]
abbrev Wr.cellsL (x : Wr) : List Value := .int .i64 x.block :: x.val.cellsL
def JM (ws : List Wr) : List Value := ws.flatMap Wr.cellsL
theorem vY (x y : List Wr) : JM (x ++ y) = JM x ++ JM y := by simp [JM]
theorem Zp : ∀ ws, (JM ws).length = ws.length * 9
 | [] => rfl
 | x :: ws => by
   show (x.cellsL ++ JM ws).length = _
   rw [List.length_append, Zp ws]; simp; omega
theorem yh : ∀ ws, Jp (JM ws) = true
 | [] => rfl
 | x :: ws => by
   show Jp (x.cellsL ++ JM ws) = true
   rw [JJ, yh ws]; rfl
theorem JQ : ∀ {ws : List Wr} {i : Nat} {x : Wr}, ws[i]? = some x → ((JM ws).drop (i * 9)).take 9 = x.cellsL
 | [], i, x, h => by grind
 | y :: ws, 0, x, h => by
   obtain rfl : y = x := by grind
   simp [JM]
 | y :: ws, i + 1, x, h => by
   have := JQ (ws := ws) (i := i) (x := x) (by grind)
   rw [← this, JM, List.flatMap_cons, show (i + 1) * 9 = y.cellsL.length + i * 9 by simp; omega, ← List.drop_drop, List.drop_left]
   rfl
abbrev Ws (lo hi : Nat) (w : World) (v : Value) (ws : List Wr) : Prop := Rd lo hi w 9 v ws.length (JM ws)
def Va (n m : Int) : Bool := decide (1 ≤ n ∧ n ≤ m)
def Nm.named (n : Nm) : Bool := Va n.stamp 1048576 && Va n.inc 1048576 && Va n.try_ 1048576
def ZG (n : Int) : Bool := decide (0 ≤ n ∧ n < 256)
def YA (s t : Int) : Bool := decide ((s = -1 ∧ t = 0) ∨ (0 ≤ s ∧ s < 8 ∧ 1 ≤ t ∧ t ≤ 4))
def Z3 (n : Int) : Bool := decide (0 < n ∧ n < 32 ∧ n % 2 = 0)
def Qu (x y : Int) : Int := IntKind.i64.wrap (BitVec.ofInt IntKind.i64.bits x &&& BitVec.ofInt IntKind.i64.bits y).toNat
def Z9 (x y : Int) : Int := IntKind.i64.wrap (BitVec.ofInt IntKind.i64.bits x &&& ~~~BitVec.ofInt IntKind.i64.bits y).toNat
def V7 (last : Int) : List Wr → Bool
 | [] => true
 | w :: r => decide (last < w.block ∧ w.block < 32) && V7 w.block r
def Jv (ws : List Wr) : Bool := decide (ws.length ≤ 8) && V7 (-1) ws
def Rc.same (a b : Rc) (x y : List Wr) : Bool :=
 a.kind == b.kind && a.name.eqb b.name && a.yes == b.yes && vx x y && a.give == b.give && a.take == b.take && a.shards == b.shards && (a.cs == b.cs && a.ct == b.ct) && a.n == b.n
theorem Rc.same_iff {a b : Rc} {x y : List Wr} : a.same b x y = true ↔ a = b ∧ x = y := by
 cases a; cases b
 grind [Rc.same, Nm.eqb_iff, Zm]
def Nm.zero : Nm := ⟨0, 0, 0⟩
def Rc.zero : Rc := ⟨0, ⟨0, 0, 0⟩, false, 0, 0, 0, 0, 0, 0⟩
def Rc.ok (r : Rc) (x : List Wr) : Bool :=
 if r.kind = 1 then r.name.named && Jv x
 else if r.kind = 2 then r.name.named && Jv x && ZG r.give && ZG r.take && Qu r.give r.take == 0
 else if r.kind = 3 then r.name.named
 else if r.kind = 4 then r.name.named && Z3 r.shards && YA r.cs r.ct
 else if r.kind = 5 then r.name.named
 else if r.kind = 6 then Va r.n 1048577
 else Va r.n 1048576
def Rc.rest (r : Rc) : Rc :=
 if r.kind = 1 then { r with name := ⟨0, 0, 0⟩ }
 else if r.kind = 2 then { r with name := ⟨0, 0, 0⟩, give := 0, take := 0 }
 else if r.kind = 3 then { r with name := ⟨0, 0, 0⟩, yes := false }
 else if r.kind = 4 then { r with name := ⟨0, 0, 0⟩, shards := 0, cs := 0, ct := 0 }
 else if r.kind = 5 then { r with name := ⟨0, 0, 0⟩ }
 else { r with n := 0 }
def Rc.may (r : Rc) (x : List Wr) : Bool :=
 if 1 ≤ r.kind ∧ r.kind ≤ 7 then r.ok x && r.rest.same ⟨r.kind, ⟨0, 0, 0⟩, false, 0, 0, 0, 0, 0, 0⟩ (if r.kind = 1 ∨ r.kind = 2 then [] else x) [] else false
theorem JbK {r : Rc} {x : List Wr} (h : r.may x = true) : r.kind = 1 ∨ r.kind = 2 ∨ r.kind = 3 ∨ r.kind = 4 ∨ r.kind = 5 ∨ r.kind = 6 ∨ r.kind = 7 := by
 grind [Rc.may]
theorem Jd6 {n : Nm} : n.named = true ↔ (1 ≤ n.stamp ∧ n.stamp ≤ 1048576) ∧ (1 ≤ n.inc ∧ n.inc ≤ 1048576) ∧ (1 ≤ n.try_ ∧ n.try_ ≤ 1048576) := by
 grind [Nm.named, Va]
theorem QX : ∀ {ws : List Wr} {l : Int}, V7 l ws = true → ∀ x ∈ ws, l < x.block ∧ x.block < 32
 | [], _, _, x, hx => by cases hx
 | y :: ws, l, h, x, hx => by
   simp only [V7, Bool.and_eq_true, decide_eq_true_eq] at h
   rcases List.mem_cons.1 hx with rfl | hx
   ·omega
   ·have := QX h.2 x hx; omega
theorem jN {r : Rc} {x : List Wr} (h : r.may x = true) :
 (r.kind = 1 ∧ r = { Rc.zero with kind := 1, name := r.name } ∧ r.name.named = true ∧ Jv x = true) ∨
 (r.kind = 2 ∧ r = { Rc.zero with kind := 2, name := r.name, give := r.give, take := r.take } ∧ r.name.named = true ∧ Jv x = true ∧ ZG r.give = true ∧ ZG r.take = true ∧ Qu r.give r.take = 0) ∨
 (r.kind = 3 ∧ r = { Rc.zero with kind := 3, name := r.name, yes := r.yes } ∧ x = [] ∧ r.name.named = true) ∨
 (r.kind = 4 ∧ r = { Rc.zero with kind := 4, name := r.name, shards := r.shards, cs := r.cs, ct := r.ct } ∧ x = [] ∧ r.name.named = true ∧ Z3 r.shards = true ∧ YA r.cs r.ct = true) ∨
 (r.kind = 5 ∧ r = { Rc.zero with kind := 5, name := r.name } ∧ x = [] ∧ r.name.named = true) ∨
 (r.kind = 6 ∧ r = { Rc.zero with kind := 6, n := r.n } ∧ x = [] ∧ Va r.n 1048577 = true) ∨
 (r.kind = 7 ∧ r = { Rc.zero with kind := 7, n := r.n } ∧ x = [] ∧ Va r.n 1048576 = true) := by
 have hk := JbK h
 unfold Rc.may at h
 rw [if_pos o_] at h
 simp only [Bool.and_eq_true, Rc.same_iff] at h
 obtain ⟨ho, hr, hx⟩ := h
 cases r
 rename_i kind name yes give take shards cs ct n
 simp only at hk ⊢
 rcases hk with rfl | rfl | rfl | rfl | rfl | rfl | rfl <;> simp_all [Rc.ok, Rc.rest, Rc.zero]
/-! ### bytes -/
def nmB (n : Nm) : List UInt8 := leB n.stamp 3 ++ (leB n.inc 3 ++ leB n.try_ 3)
def V8.bs (v : V8) : List UInt8 := [v.v0, v.v1, v.v2, v.v3, v.v4, v.v5, v.v6, v.v7]
def wrB (x : Wr) : List UInt8 := leB x.block 1 ++ x.val.bs
def ZK (ws : List Wr) : List UInt8 := ws.flatMap wrB
def wsB (ws : List Wr) : List UInt8 := leB ws.length 1 ++ ZK ws
theorem JcV {x : List Wr} {k : Nat} {p : Wr} (h : x[k]? = some p) : ZK (x.take (k + 1)) = ZK (x.take k) ++ wrB p := by
 grind [List.take_succ_eq_append_getElem, ZK]
theorem yz (x : List Wr) : (ZK x).length = x.length * 9 := by
 induction x with
 | nil => rfl
 | cons a ws ih => rw [show ZK (a :: ws) = wrB a ++ ZK ws by simp [ZK], List.length_append, ih]; simp [wrB, Jl, V8.bs]; omega
def Rc.body (r : Rc) (x : List Wr) : List UInt8 :=
 if r.kind = 1 then nmB r.name ++ wsB x
 else if r.kind = 2 then nmB r.name ++ (wsB x ++ (leB r.give 1 ++ leB r.take 1))
 else if r.kind = 3 then nmB r.name ++ leB (if r.yes then 1 else 0) 1
 else if r.kind = 4 then nmB r.name ++ (leB r.shards 1 ++ (leB (r.cs + 1) 1 ++ leB r.ct 1))
 else if r.kind = 5 then nmB r.name
 else leB r.n 3
def Rc.enc (r : Rc) (x : List Wr) : List UInt8 := leB r.kind 1 ++ r.body x
theorem EF (i : Int) : ((V4 i).toNat : Int) = i % 256 := by
 have h1 : 0 ≤ i % 256 := Int.emod_nonneg _ o_
 have h2 : i % 256 < 256 := Int.emod_lt_of_pos _ o_
 unfold V4
 have : (UInt8.ofNat (i % 256).toNat).toNat = (i % 256).toNat := by simp; omega
 omega
/-! ### taking -/
structure Rs where
 at_ : Nat
 bad : Bool
def tk (bs : List UInt8) (k : Nat) (s : Rs) : Int × Rs :=
 if s.at_ + k ≤ bs.length then (leN ((bs.drop s.at_).take k), ⟨s.at_ + k, s.bad⟩) else (0, ⟨s.at_, true⟩)
def GX (bs : List UInt8) (s : Rs) : Nm × Rs :=
 let a := tk bs 3 s
 let b := tk bs 3 a.2
 let c := tk bs 3 b.2
 (⟨a.1, b.1, c.1⟩, c.2)
def JiE (bs : List UInt8) : Nat → Rs → List UInt8 × Rs
 | 0, s => ([], s)
 | k + 1, s => let a := tk bs 1 s; let r := JiE bs k a.2; (V4 a.1 :: r.1, r.2)
def v8 (l : List UInt8) : V8 := ⟨l.getD 0 0, l.getD 1 0, l.getD 2 0, l.getD 3 0, l.getD 4 0, l.getD 5 0, l.getD 6 0, l.getD 7 0⟩
def JjN (bs : List UInt8) (s : Rs) : Wr × Rs := let a := tk bs 1 s; let v := JiE bs 8 a.2; (⟨a.1, v8 v.1⟩, v.2)
def JgM (bs : List UInt8) : Nat → Rs → List Wr × Rs
 | 0, s => ([], s)
 | k + 1, s => let a := JjN bs s; let r := JgM bs k a.2; (a.1 :: r.1, r.2)
def JiD (bs : List UInt8) (s : Rs) : List Wr × Rs := let a := tk bs 1 s; JgM bs (min a.1 8).toNat a.2
def QZ (bs : List UInt8) (kind : Int) (s : Rs) : Rc × List Wr × Rs :=
 if kind = 1 then
  let a := GX bs s; let l := JiD bs a.2
  ({ Rc.zero with kind := kind, name := a.1 }, l.1, l.2)
 else if kind = 2 then
  let a := GX bs s; let l := JiD bs a.2; let g := tk bs 1 l.2; let t := tk bs 1 g.2
  ({ Rc.zero with kind := kind, name := a.1, give := g.1, take := t.1 }, l.1, t.2)
 else if kind = 3 then
  let a := GX bs s; let y := tk bs 1 a.2
  ({ Rc.zero with kind := kind, name := a.1, yes := y.1 == 1 }, [], y.2)
 else if kind = 4 then
  let a := GX bs s; let x := tk bs 1 a.2; let y := tk bs 1 x.2; let z := tk bs 1 y.2
  ({ Rc.zero with kind := kind, name := a.1, shards := x.1, cs := y.1 - 1, ct := z.1 }, [], z.2)
 else if kind = 5 then
  let a := GX bs s
  ({ Rc.zero with kind := kind, name := a.1 }, [], a.2)
 else
  let a := tk bs 3 s
  ({ Rc.zero with kind := kind, n := a.1 }, [], a.2)
theorem Zc {r : Rc} {x : List Wr} (h : r.may x = true) : 1 ≤ (r.enc x).length ∧ (r.enc x).length ≤ 90 := by
 have hw : ∀ ws : List Wr, (ZK ws).length = ws.length * 9 := fun ws => by
  induction ws with
  | nil => rfl
  | cons a ws ih => rw [show ZK (a :: ws) = wrB a ++ ZK ws by simp [ZK], List.length_append, ih]; simp [wrB, Jl, V8.bs]; omega
 have hn : ∀ n : Nm, (nmB n).length = 9 := fun n => by simp [nmB, Jl]
 have h8 : Jv x = true → x.length ≤ 8 := fun h => by grind [Jv]
 grind [Rc.enc, Rc.body, jN, Jl, wsB]
abbrev rdC (bv : Value) (s : Rs) : Array Value := #[bv, .int .i64 (s.at_ : Int), .bool s.bad]
def JkV (l : List UInt8) : List UInt8 := l ++ List.replicate (8 - l.length) 0
theorem Tryz.cellsByte : Tryz.prog.cellsOf 5 = 1 := by kernel_rfl
theorem Tryz.hasInfoByte : (Tryz.prog.info? 5).isSome = true := by kernel_rfl
abbrev V8.cells (a : V8) : Array Value := #[.int .u8 (a.v0.toNat : Int), .int .u8 (a.v1.toNat : Int), .int .u8 (a.v2.toNat : Int), .int .u8 (a.v3.toNat : Int), .int .u8 (a.v4.toNat : Int), .int .u8 (a.v5.toNat : Int), .int .u8 (a.v6.toNat : Int), .int .u8 (a.v7.toNat : Int)]
abbrev Wr.cells (a : Wr) : Array Value := #[.int .i64 a.block, .int .u8 (a.val.v0.toNat : Int), .int .u8 (a.val.v1.toNat : Int), .int .u8 (a.val.v2.toNat : Int), .int .u8 (a.val.v3.toNat : Int), .int .u8 (a.val.v4.toNat : Int), .int .u8 (a.val.v5.toNat : Int), .int .u8 (a.val.v6.toNat : Int), .int .u8 (a.val.v7.toNat : Int)]
theorem jP (d : Nat) (a b : V8) (w : World) : (Op.equalIn (d + 2) 39 (.agg a.cells) (.agg b.cells)).run Tryz.prog w = .ok (a.eqb b) w := by
 obtain ⟨i, hi⟩ := Option.isSome_iff_exists.1 Tryz.hasInfoByte
 rw [run_equalIn_array w (d + 1) _ _ Tryz.underlying39 hi, Tryz.cellsByte]
 simp only [List.range, List.range.loop, Op.eqItems, part, isAgg, Sem.run_bind, run_underlying Tryz.underlying5, Result.andThen_ok]
 simp [run_equalIn_int w d 5 .u8 .u8 _ _ Tryz.underlying5, V8.eqb]
 grind
theorem VG (d : Nat) (a b : Nm) (w : World) : (Op.equalIn (d + 2) 43 (.agg a.cells) (.agg b.cells)).run Tryz.prog w = .ok (a.eqb b) w := by
 simp [go_sem, Nm.eqb]
 grind
theorem Ja1 (d : Nat) (a b : Wr) (w : World) : (Op.equalIn (d + 3) 108 (.agg a.cells) (.agg b.cells)).run Tryz.prog w = .ok (a.eqb b) w := by
 have h := jP d a.val b.val w
 simp only [V8.cells] at h
 simp [go_sem, h, Wr.eqb]
 grind
section
variable {ds : List Deferred}
variable {P : Program} {n : Nat} {a : Act} {L : List (Nat × Value)} {w : World}
theorem VI {x y : Operand} {A B : Array Value} {r : Bool} {xt : TypeId} (hG : P.eqGuardType P.depth xt = false) (S : SeesD ds n a L) (hx : val L x = some (.agg A)) (hy : val L y = some (.agg B)) (hE : ∀ w, (Op.equalIn 10000 xt (.agg A) (.agg B)).run P w = .ok r w) {d : Option Tmp} {yt t : TypeId} {p : String} {e : Array Edge} {g : Option (Nat × Bool)} :
 Je P a ⟨d, .binOp .eql xt x y yt, t, p, e, g⟩ w (.bool r) := by
 unfold Je execOp; simp only [S.eval hx, S.eval hy, eqGuard, Sem.run_bind]
 simp [hG, hE w, go_sem]
theorem jU {x y : Operand} {A B : Array Value} {r : Bool} {xt : TypeId} (hG : P.eqGuardType P.depth xt = false) (S : SeesD ds n a L) (hx : val L x = some (.agg A)) (hy : val L y = some (.agg B)) (hE : ∀ w, (Op.equalIn 10000 xt (.agg A) (.agg B)).run P w = .ok r w) {d : Option Tmp} {yt t : TypeId} {p : String} {e : Array Edge} {g : Option (Nat × Bool)} :
 Je P a ⟨d, .binOp .neq xt x y yt, t, p, e, g⟩ w (.bool (!r)) := by
 unfold Je execOp; simp only [S.eval hx, S.eval hy, eqGuard, Sem.run_bind]
 simp [hG, hE w, go_sem]
end
section
variable {h : List V8} {i : Nat}
def Jo (h : List V8) : List Value := h.flatMap V8.cellsL
theorem JF : ∀ h, (Jo h).length = h.length * 8
 | [] => rfl
 | x :: h => by
   show (x.cellsL ++ Jo h).length = _
   rw [List.length_append, JF h]; simp; omega
theorem Yi : ∀ h, Jp (Jo h) = true
 | [] => rfl
 | x :: h => by
   show Jp (x.cellsL ++ Jo h) = true
   rw [JJ, Yi h]; rfl
theorem j5 {x : V8} (hx : h[i]? = some x) : Jo h = Jo (h.take i) ++ (x.cellsL ++ Jo (h.drop (i + 1))) := by
 grind [List.take_append_drop, List.drop_eq_getElem_cons, Jo]
theorem Uh {x : V8} (hx : h[i]? = some x) : ((Jo h).drop (i * 8)).take 8 = x.cellsL := by
 have hlt := (List.getElem?_eq_some_iff.1 hx).1
 rw [j5 hx, show i * 8 = (Jo (h.take i)).length by grind [JF], List.drop_left]
 rfl
theorem Ug (hi : i < h.length) (x : V8) : Jt (Jo h) (i * 8) x.cellsL = Jo (h.set i x) := by
 have hx := List.getElem?_eq_getElem hi
 rw [j5 hx, show i * 8 = (Jo (h.take i)).length by grind [JF], jy (B := (h[i]).cellsL) (us := x.cellsL) rfl]
 have h2 : (h.set i x)[i]? = some x := by grind
 rw [j5 h2, List.take_set_of_le (Nat.le_refl _), List.drop_set_of_lt o_]
end
def zd (k : Int) : Prop := 0 ≤ k ∧ k < 32
instance (k : Int) : Decidable (zd k) := inferInstanceAs (Decidable (_ ∧ _))
def on1 (h : List V8) (x : Wr) : List V8 := if zd x.block then h.set x.block.toNat x.val else h
def onF (h : List V8) (ws : List Wr) : List V8 := ws.foldl on1 h
theorem JbF (h : List V8) (x : Wr) : (on1 h x).length = h.length := by grind [on1]
theorem Ve : ∀ (ws : List Wr) (h : List V8), (onF h ws).length = h.length
 | [], _ => rfl
 | x :: ws, h => by show (onF (on1 h x) ws).length = _; rw [Ve ws, JbF]
theorem yJ {h : List V8} {ws : List Wr} {k : Nat} {x : Wr} (hx : ws[k]? = some x) : onF h (ws.take (k + 1)) = on1 (onF h (ws.take k)) x := by
 grind [onF, List.take_succ_eq_append_getElem]
def Jjt : List Wr → Nat → Option V8
 | [], _ => none
 | x :: ws, i => (Jjt ws i).or (if zd x.block ∧ x.block.toNat = i then some x.val else none)
structure Pr where
 name : Nm
 give : Int
 take : Int
abbrev Pr.cellsL (p : Pr) (wv : Value) : List Value := [.int .i64 p.name.stamp, .int .i64 p.name.inc, .int .i64 p.name.try_, wv, .int .i64 p.give, .int .i64 p.take]
abbrev Pl := List (Pr × List Wr)
structure St where
 p2 : List Value
 owned : Int
 p12 : List Value
 home : List V8
 app : Int
def St.pre (s : St) : List Value := s.p2 ++ (.int .i64 s.owned :: s.p12)
def St.cellsL (s : St) (dv : Value) : List Value := s.pre ++ (Jo s.home ++ [dv, .int .i64 s.app])
structure St.ok (s : St) : Prop where
 l2 : s.p2.length = 2
 l12 : s.p12.length = 12
 lh : s.home.length = 32
 o2 : Jp s.p2 = true
 o12 : Jp s.p12 = true
theorem St.ok.hl {s : St} (h : s.ok) : (Jo s.home).length = 256 := by rw [JF, h.lh]
theorem St.pre_len {s : St} (h : s.ok) : s.pre.length = 15 := by unfold St.pre; rw [List.length_append, List.length_cons, h.l2, h.l12]
theorem St.len {s : St} (h : s.ok) (dv : Value) : (s.cellsL dv).length = 273 := by unfold St.cellsL; rw [List.length_append, List.length_append, St.pre_len h, h.hl]; rfl
theorem St.one {s : St} (h : s.ok) (dv : Value) (hd : Gg dv = true) : Jp (s.cellsL dv) = true := by
 unfold St.cellsL St.pre
 simp only [JJ, Jp, h.o2, h.o12, Yi, hd, Bool.and_true, Bool.true_and]
 rfl
theorem St.doubt {s : St} (h : s.ok) (dv : Value) : (s.cellsL dv).toArray[271]? = some dv := by
 rw [List.getElem?_toArray]; unfold St.cellsL
 rw [List.getElem?_append_right (by grind [St.pre_len]), St.pre_len h, List.getElem?_append_right (by rw [h.hl]; omega), h.hl]; rfl
def zV8 : V8 := ⟨0, 0, 0, 0, 0, 0, 0, 0⟩
def zSt : St := ⟨[.int .i64 0, .int .i64 0], 0, List.replicate 12 (.int .i64 0), List.replicate 32 zV8, 0⟩
theorem JH : zSt.ok := ⟨rfl, rfl, rfl, rfl, rfl⟩
def JO (nm : Nm) : Pl → Option Nat
 | [] => none
 | q :: ps => if q.1.name.eqb nm then some 0 else (JO nm ps).map (· + 1)
theorem UL {nm : Nm} : ∀ {ps : Pl}, (∀ (i : Nat) (p : Pr × List Wr), ps[i]? = some p → p.1.name.eqb nm = false) → JO nm ps = none
 | [], _ => rfl
 | q :: ps, h => by
   rw [JO, h 0 q rfl, UL (fun i p hp => h (i + 1) p (by grind))]; rfl
theorem UK {nm : Nm} : ∀ {ps : Pl} {k : Nat} {q : Pr × List Wr}, ps[k]? = some q → q.1.name.eqb nm = true → (∀ (i : Nat) (p : Pr × List Wr), i < k → ps[i]? = some p → p.1.name.eqb nm = false) → JO nm ps = some k
 | [], k, q, h, _, _ => by grind
 | p :: ps, 0, q, h, hq, _ => by
   grind [JO]
 | p :: ps, k + 1, q, h, hq, hn => by
   rw [JO, hn 0 p o_ rfl, UK (ps := ps) (k := k) (q := q) (by grind) hq (fun i r hi hr => hn (i + 1) r o_ (by grind))]; rfl
theorem Kc {nm : Nm} : ∀ {ps : Pl} {k : Nat}, JO nm ps = some k → ∃ q, ps[k]? = some q
 | [], k, h => by grind [JO]
 | p :: ps, k, h => by
   rw [JO] at h; split at h
   ·obtain rfl : 0 = k := by grind
    simp_all
   ·cases hf : JO nm ps with
    | none => grind
    | some j =>
      rw [hf] at h
      obtain rfl : j + 1 = k := by grind
      obtain ⟨q, hq⟩ := Kc hf
      grind
def orV (x y : Int) : Int := IntKind.i64.wrap (BitVec.ofInt IntKind.i64.bits x ||| BitVec.ofInt IntKind.i64.bits y).toNat
def V0 (r : Rc) : Pr := ⟨r.name, r.give, r.take⟩
def JL (ps : Pl) (r : Rc) (x : List Wr) : Pl × List Wr :=
 if r.kind = 1 then (ps, x)
 else if r.kind = 2 then (match JO r.name ps with | some k => (ps.set k (V0 r, x), []) | none => (ps ++ [(V0 r, x)], []))
 else (match JO r.name ps with | some k => (ps.eraseIdx k, if r.yes then (match ps[k]? with | some q => q.2 | none => []) else []) | none => (ps, []))
def Zw (o : Int) (ps : Pl) (r : Rc) : Int :=
 if r.kind = 3 ∧ r.yes = true then (match JO r.name ps with | some k => (match ps[k]? with | some q => orV (Z9 o q.1.give) q.1.take | none => o) | none => o) else o
def YX (r : Rc) (x : List Wr) : Bool := r.may x && decide (r.kind ≤ 3)
def Gx (s : St) (ps : Pl) (r : Rc) (x : List Wr) : St := { s with owned := Zw s.owned ps r, home := onF s.home (JL ps r x).2, app := IntKind.i64.wrap (s.app + 1) }
/-! ### many records -/
abbrev Rl := List (Rc × List Wr)
def DK : Pl → Rl → Pl × List Wr
 | ps, [] => (ps, [])
 | ps, q :: l => if YX q.1 q.2 then ((DK (JL ps q.1 q.2).1 l).1, (JL ps q.1 q.2).2 ++ (DK (JL ps q.1 q.2).1 l).2) else DK ps l

theorem ve (v : Value) (ws : List Wr) (w : World) (hv : Ws 0 w.heap.size w v ws) (hl : ws.length ≤ 1000000) : CT 66 #[v] w fun e w' => ∃ v', e = .returned v' ∧ Fresh w w' 108 9 v' ws.length (JM ws) := by
 have M := Mem.start w
 refine qI Tryz.func66 8 ?_
 refine gp [[2,1],[5,1]] ?_; intro a S
 refine qY S (ZJ (e := 108) S rfl (M.arg hv) k_) ?_; intro a S
 refine nxC (Js (t := 4) S rfl ?_ ?_)
 ·intro h4 S
  refine gp [[3,1],[4],[930]] ?_
  obtain ⟨rfl, h0, h1⟩ := hv.nilV h4
  exact ⟨_, rfl, by rw [h1, h0]; exact M.freshNil _ _⟩
 intro h4 S
 refine cF S (wp_skip (nxE (jJ (e := 108) (sz := 9) (by_ := 16) (zc := Wv) S M rfl rfl k_ ?_))); intro a w1 b1 S M hB
 refine qG [1] S ?_; intro a S
 replace M := M.toRow (sz := 9) (m := 0) (cap := 0) (xs := []) 0 rfl rfl (Nat.le_refl _) (Nat.zero_le _) rfl rfl
 refine JI (e := 108) (sz := 9) (by_ := 16) (zc := Wv) S M 0 rfl rfl k_ rfl d_ rfl rfl rfl (M.arg hv) (yh _) o_ (by grind [maxLen]) ?_; intro a w2 vA loA hiA S M
 refine gp [[0,1],[3],[930]] ?_
 exact ⟨_, rfl, by have := M.fresh 0 rfl; grind⟩


instance : DecidableEq Nm := fun _ _ => decidable_of_iff _ Nm.eqb_iff
def Ye (l : List Nm) : List Value := l.flatMap fun n => n.cells.toList
theorem zH : ∀ l, (Ye l).length = l.length * 3
 | [] => rfl
 | x :: l => by
   show (x.cells.toList ++ Ye l).length = _
   rw [List.length_append, zH l]; grind
theorem Jab {l : List Nm} {i : Nat} {x : Nm} (hx : l[i]? = some x) : ((Ye l).drop (i * 3)).take 3 = x.cells.toList := by
 obtain ⟨hlt, he⟩ := List.getElem?_eq_some_iff.1 hx
 have e : Ye l = Ye (l.take i) ++ (x.cells.toList ++ Ye (l.drop (i + 1))) := by
  grind [List.take_append_drop, List.drop_eq_getElem_cons, Ye]
 grind [zH]
section
variable {ds : List Deferred}
variable {H : List Ent} {x : List Wr} {lo hi : Nat} {v : Value} {w0 w : World}
structure Shp (α : Type) where
 sz : Nat
 f : α → Value → List Value
 wr : α → List Wr
 len : ∀ q lv, (f q lv).length = sz
 one : ∀ q lv, Gg lv = true → Jp (f q lv) = true
variable {α : Type}
def RowC (S : Shp α) (cs : List Value) (lo hi : Nat) (w : World) (v : Value) (l : List α) : Prop :=
 Rd lo hi w S.sz v l.length cs ∧ ∀ (i : Nat) (q : α), l[i]? = some q → ∃ lv, (cs.drop (i * S.sz)).take S.sz = S.f q lv ∧ Ws lo hi w lv (S.wr q)
def WrAt (lv : Value) (x : List Wr) (es : List Ent) : Prop := (lv = .slice none 0 0 ∧ x = []) ∨ ∃ ad cp lo hi, lv = .slice ad x.length cp ∧ Jd lo hi 108 9 lv x.length (JM x) ∈ es ∧ x.length ≤ 1000000
theorem WrAt.mono {lv : Value} {es es' : List Ent} (h : WrAt lv x es) (hs : ∀ e ∈ es, e ∈ es') : WrAt lv x es' := by
 rcases h with h | ⟨ad, cp, lo, hi, h1, h2, h3⟩
 ·exact .inl h
 ·exact .inr ⟨ad, cp, lo, hi, h1, hs _ h2, h3⟩
theorem WrAt.oneB {lv : Value} {es : List Ent} (h : WrAt lv x es) : Gg lv = true := by
 rcases h with ⟨rfl, -⟩ | ⟨ad, cp, lo, hi, rfl, -⟩ <;> rfl
theorem WrAt.form {lv : Value} {es : List Ent} (h : WrAt lv x es) : ∃ ad cp, lv = .slice ad x.length cp ∧ x.length ≤ 1000000 := by
 rcases h with ⟨rfl, rfl⟩ | ⟨ad, cp, lo, hi, rfl, -, h⟩
 ·simp_all
 grind
theorem WrAt.ws {lv : Value} {es : List Ent} (h : WrAt lv x es) (M : Mem w0 w H) (hs : ∀ e ∈ es, e ∈ H) : Ws w0.heap.size w.heap.size w lv x := by
 rcases h with ⟨rfl, rfl⟩ | ⟨ad, cp, lo, hi, rfl, hm, hl⟩
 ·exact Rd.nil _ _ _ _
 ·have r := M.ok _ (hs _ hm) w (fun _ _ _ => rfl)
  have f := M.fits _ (hs _ hm)
  exact (Rd.of_row r.1 r.2 (by grind [maxLen])).wide f.1 f.2
def BkG (S : Shp α) (cs : List Value) (l : List α) (es : List Ent) : Prop :=
 cs.length = l.length * S.sz ∧ Jp cs = true ∧ ∀ (i : Nat) (q : α), l[i]? = some q → ∃ lv, (cs.drop (i * S.sz)).take S.sz = S.f q lv ∧ WrAt lv (S.wr q) es
variable {S : Shp α} {cs : List Value} {l : List α} {es es' : List Ent} {q : α} {lv : Value} {k : Nat}
theorem BkG.nil : BkG S [] [] es := ⟨by simp, rfl, fun i q hi => by grind⟩
theorem BkG.mono (h : BkG S cs l es) (hs : ∀ e ∈ es, e ∈ es') : BkG S cs l es' := ⟨h.1, h.2.1, fun i q hq => let ⟨lv, e, hw⟩ := h.2.2 i q hq; ⟨lv, e, hw.mono hs⟩⟩
theorem YR {l : List Value} (h : Jp l = true) (k : Nat) : Jp (l.take k) = true ∧ Jp (l.drop k) = true := by
 grind [List.take_append_drop, JJ]
theorem BkG.more (h : BkG S cs l es) (hw : WrAt lv (S.wr q) es) : BkG S (cs ++ S.f q lv) (l ++ [q]) es := by
 have h0 := h.1
 refine ⟨by rw [List.length_append, h0, S.len, List.length_append, Nat.add_mul]; simp, by rw [JJ, h.2.1, S.one q lv hw.oneB]; rfl, fun i x hx => ?_⟩
 rcases Nat.lt_or_ge i l.length with h1 | h1
 ·rw [List.getElem?_append_left h1] at hx
  obtain ⟨lv', h2, h3⟩ := h.2.2 i x hx
  have hle : (i + 1) * S.sz ≤ l.length * S.sz := Nat.mul_le_mul_right _ h1
  grind
 ·have : i = l.length := by grind
  subst this
  rw [List.getElem?_append_right (Nat.le_refl _)] at hx
  simp only [Nat.sub_self, List.getElem?_cons_zero, Option.some.injEq] at hx
  subst hx
  refine ⟨lv, ?_, hw⟩
  rw [← h0, List.drop_left, ← S.len q lv, List.take_length]
theorem BkG.set (h : BkG S cs l es) (hk : k < l.length) (hw : WrAt lv (S.wr q) es) : BkG S (cs.take (k * S.sz) ++ S.f q lv ++ cs.drop ((k + 1) * S.sz)) (l.set k q) es := by
 have h0 := h.1
 have hle : (k + 1) * S.sz ≤ l.length * S.sz := Nat.mul_le_mul_right _ hk
 have hk1 : (k + 1) * S.sz = k * S.sz + S.sz := by grind
 have hlt : (cs.take (k * S.sz)).length = k * S.sz := by grind
 have hl2 : (cs.take (k * S.sz) ++ S.f q lv).length = (k + 1) * S.sz := by rw [List.length_append, hlt, S.len]; omega
 refine ⟨?_, ?_, fun i x hx => ?_⟩
 ·grind
 ·rw [JJ, JJ, (YR h.2.1 _).1, (YR h.2.1 _).2, S.one q lv hw.oneB]; rfl
 ·rw [List.getElem?_set] at hx
  by_cases hik : k = i
  ·subst hik
   rw [if_pos rfl, if_pos hk] at hx
   obtain rfl := Option.some.inj hx
   refine ⟨lv, ?_, hw⟩
   simp_all
  ·rw [if_neg hik] at hx
   obtain ⟨lv', h2, h3⟩ := h.2.2 i x hx
   have hi2 := (List.getElem?_eq_some_iff.1 hx).1
   refine ⟨lv', ?_, h3⟩
   rw [← h2]
   rcases Nat.lt_or_gt_of_ne hik with hlt2 | hlt2
   ·have hh : (k + 1) * S.sz ≤ i * S.sz := Nat.mul_le_mul_right _ hlt2
    rw [List.drop_append, hl2, List.drop_of_length_le o_, List.nil_append, List.drop_drop, show (k + 1) * S.sz + (i * S.sz - (k + 1) * S.sz) = i * S.sz by omega]
   ·have hh : (i + 1) * S.sz ≤ k * S.sz := Nat.mul_le_mul_right _ hlt2
    grind [List.drop_take]
theorem BkG.del (h : BkG S cs l es) (hk : k < l.length) : BkG S (cs.take (k * S.sz) ++ cs.drop ((k + 1) * S.sz)) (l.eraseIdx k) es := by
 have h0 := h.1
 have hle : (k + 1) * S.sz ≤ l.length * S.sz := Nat.mul_le_mul_right _ hk
 have hk1 : (k + 1) * S.sz = k * S.sz + S.sz := by grind
 have hlt : (cs.take (k * S.sz)).length = k * S.sz := by grind
 refine ⟨?_, ?_, fun i x hx => ?_⟩
 ·grind [Nat.sub_mul]
 ·rw [JJ, (YR h.2.1 _).1, (YR h.2.1 _).2]; rfl
 ·rw [List.getElem?_eraseIdx] at hx
  split at hx
  ·rename_i hik
   obtain ⟨lv', h2, h3⟩ := h.2.2 i x hx
   have hh : (i + 1) * S.sz ≤ k * S.sz := Nat.mul_le_mul_right _ hik
   grind [List.drop_take]
  ·rename_i hik
   obtain ⟨lv', h2, h3⟩ := h.2.2 (i + 1) x hx
   have hh : k * S.sz ≤ i * S.sz := Nat.mul_le_mul_right _ o_
   have hi1 : (i + 1) * S.sz = i * S.sz + S.sz := by grind
   refine ⟨lv', ?_, h3⟩
   rw [← h2, List.drop_append, hlt, List.drop_of_length_le o_, List.nil_append, List.drop_drop]
   grind
theorem BkG.at (h : BkG S cs l es) (hq : l[k]? = some q) : ∃ lv, (cs.drop (k * S.sz)).take S.sz = S.f q lv ∧ WrAt lv (S.wr q) es := h.2.2 k q hq
theorem BkG.rowC {t : Nat} (h : BkG S cs l es) (M : Mem w0 w H) (h1 : Jd lo hi t S.sz v l.length cs ∈ H) (h2 : ∀ e ∈ es, e ∈ H) (hm : l.length ≤ maxLen) : RowC S cs w0.heap.size w.heap.size w v l := by
 have r1 := M.ok _ h1 w (fun _ _ _ => rfl)
 have f1 := M.fits _ h1
 refine ⟨(Rd.of_row r1.1 r1.2 hm).wide f1.1 f1.2, fun i q hq => ?_⟩
 obtain ⟨lv, e, hw⟩ := h.2.2 i q hq
 exact ⟨lv, e, hw.ws M h2⟩
theorem RowC.same {w' : World} (h : RowC S cs lo hi w v l) (hs : SameOn lo hi w w') : RowC S cs lo hi w' v l :=
 ⟨h.1.same hs, fun i q hi => let ⟨lv, e, hb⟩ := h.2 i q hi; ⟨lv, e, hb.same hs⟩⟩
theorem RowC.wide {lo' hi' : Nat} (h : RowC S cs lo hi w v l) (h1 : lo' ≤ lo) (h2 : hi ≤ hi') : RowC S cs lo' hi' w v l :=
 ⟨h.1.wide h1 h2, fun i q hi => let ⟨lv, e, hb⟩ := h.2 i q hi; ⟨lv, e, hb.wide h1 h2⟩⟩
theorem RowC.nil : RowC S [] lo hi w (.slice none 0 0) [] := ⟨Rd.nil _ _ _ _, fun i q hi => by grind⟩
theorem Mem.rows (M : Mem w0 w H) (h : RowC S cs 0 w0.heap.size w0 v l) : RowC S cs 0 w0.heap.size w v l := h.same fun k _ h2 => M.below.block k h2
theorem Mem.rowsW (M : Mem w0 w H) (h : RowC S cs 0 w0.heap.size w0 v l) : RowC S cs 0 w.heap.size w v l := (M.rows h).wide (Nat.le_refl _) M.below.size
theorem RowC.sl {i : Nat} (h : RowC S cs lo hi w v l) (hi' : l[i]? = some q) : ∃ ad cp, (cs.drop (i * S.sz)).take S.sz = S.f q (.slice ad (S.wr q).length cp) ∧ Ws lo hi w (.slice ad (S.wr q).length cp) (S.wr q) := by
 obtain ⟨lv, e, hb⟩ := h.2 i q hi'
 obtain ⟨ad, cp, rfl, -, -⟩ := hb.form
 grind
end
def MsC (cs : List Value) (lo hi : Nat) (w : World) (v : Value) (ms : List (Msg × List Wr)) : Prop :=
 Rd lo hi w 24 v ms.length cs ∧ ∀ (i : Nat) (q : Msg × List Wr), ms[i]? = some q → ∃ lv, (cs.drop (i * 24)).take 24 = (q.1.cells lv).toList ∧ Ws lo hi w lv q.2
theorem MsC.same {cs : List Value} {lo hi : Nat} {w w' : World} {v : Value} {ms : List (Msg × List Wr)} (h : MsC cs lo hi w v ms) (hs : SameOn lo hi w w') : MsC cs lo hi w' v ms :=
 ⟨h.1.same hs, fun i q hi => let ⟨lv, e, hb⟩ := h.2 i q hi; ⟨lv, e, hb.same hs⟩⟩
theorem Mem.ms {w0 w : World} {H : List Ent} {cs : List Value} {v : Value} {ms : List (Msg × List Wr)} (M : Mem w0 w H) (h : MsC cs 0 w0.heap.size w0 v ms) : MsC cs 0 w0.heap.size w v ms := h.same fun k _ h2 => M.below.block k h2
theorem Wk {w : World} {b t i : Nat} {h : List V8} {v : V8} (B : Blk w b (Jo h).toArray t) (hx : h[i]? = some v) : CellsAt w b (i * 8) v.cellsL := fun j hj => by
 rw [B.cells, List.getElem?_toArray]
 have := Uh hx
 grind
end Go.Proofs.YtocppoflhllelaaGreat
namespace Go.Proofs.YtocppoflhllelaaGreat
open Go.ChangeShapes Go.WideShapes Go.ChangeAt Go.RowKit Go.Joins
theorem Tryz.own : ownKnob Tryz.prog.godebug = none := by kernel_rfl
theorem Tryz.laidOut : laidOutB Tryz.prog = true := by kernel_rfl
section
variable {H : Type} {enc : TypeId × Value → H} {P : Program}
theorem GB (hl : laidOutB P = true) {W W' : World} (hb : Below W.heap.size W W') {sp : Nat → Bool} : ∀ (ts : List TypeId) (vs : List Value) (ds : List (DataW H)) (ps : List MemPlace),
 (∀ t ∈ ts, P.readableRec t = true ∧ t < P.types.size) → (∀ p ∈ ps, p.block < W.heap.size ∧ sp p.block = true) →
 DataW.TrodAll enc P W 0 (fun _ => true) true ts vs ds ps → DataW.TrodAll enc P W' 0 sp true ts vs ds ps
 | [], vs, ds, ps, _, _, h => by
   obtain ⟨rfl, rfl, rfl⟩ := trodAll_nil h
   exact trodAll_mk0
 | t :: ts, vs, ds, ps, ht, hp, h => by
   obtain ⟨v, vs', d, ds', p, q, rfl, rfl, rfl, h0, h1⟩ := trodAll_cons h
   exact trodAll_cons_mk (WideElems.Trod_stays hl (ht t (by simp)).1 (ht t (by simp)).2 h0 (fun x hx => hb.same (hp x (by grind)).1) (fun x hx => (hp x (by grind)).2))
    (GB hl hb ts vs' ds' q (fun t' h' => ht t' (by grind)) (fun x hx => hp x (by grind)) h1)
theorem Jj4 {f : Func} {s : ChangeSpec} {apart fresh handsOn again : Bool} {W W' : World} {args : Array Value} {ds gs : List (DataW H)} {before : List MemPlace} {tb : TypeId}
 (hl : laidOutB P = true) (hts : ∀ t ∈ f.params.toList, P.readableRec t = true ∧ t < P.types.size) (hv : s.vars = []) (hrt : f.resultTypes = #[tb]) (htb : P.underlying tb = some .bool)
 (hs : ∀ ds : List (DataW H), ds.length = f.params.size → s.fn H ds = { results := [.lit (.bool true)], args := ds })
 (hW : DataW.Whole enc P f.params.toList s.vars apart W args.toList ds gs before) (hb : Below W.heap.size W W') : s.post enc P f apart fresh handsOn again W args (.bool true) W' := by
 have hlt : ∀ p ∈ before, p.block < W.heap.size := fun p hp => hW.lt p hp
 have hW' := hW
 obtain ⟨p, q, hA, hV, rfl, hfz, hnd⟩ := hW
 rw [hv] at hV
 obtain ⟨rfl, rfl⟩ := trodVars_none hV
 have hlen : ds.length = f.params.size := by
  have : ∀ (ts : List TypeId) (vs : List Value) (ds : List (DataW H)) (ps : List MemPlace), DataW.TrodAll enc P W 0 (fun _ => true) true ts vs ds ps → ds.length = ts.length := by
   intro ts
   induction ts with
   | nil => grind [trodAll_nil]
   | cons t ts ih => grind [trodAll_cons]
  grind
 have e := hs ds hlen
 have args_read : ∀ sp : Nat → Bool, (∀ x ∈ p ++ [], sp x.block = true) → DataW.TrodAll enc P W' 0 sp true f.params.toList args.toList ds p := fun sp hsp =>
  GB hl hb _ _ _ _ hts (fun x hx => ⟨hlt x (by grind), hsp x (by grind)⟩) hA
 have res_read : ∀ (b : Nat) (sp : Nat → Bool) (hd : Bool), DataW.TrodAll enc P W' b sp hd f.resultTypes.toList (Value.resultList f.resultTypes.size (.bool true)) [.lit (.bool true)] [] := fun b sp hd => by
  rw [hrt]; exact trodAll_mk1 (shut_bool htb _)
 have no_vars : ∀ sp : Nat → Bool, DataW.TrodVars enc P W' sp s.vars ([] : List (DataW H)) [] := fun sp => by rw [hv]; rfl
 have hold : ∀ x ∈ p ++ [], (fun b => decide (b < W.heap.size)) x.block = true := fun x hx => by grind
 have e' : s.fn H (ds ++ []) = { results := [.lit (.bool true)], args := ds } := by grind
 refine ⟨ds, [], p ++ [], [], p, [], hW', ?_, ?_, ?_, World.keptBut_mono (fun x hx => ⟨hx, ?_⟩) (hb.frame (· ∈ p ++ [])), fun _ => ?_⟩
 ·grind
 ·grind
 ·grind
 ·grind
 ·refine ⟨ok_one hrt rfl (okWide_bool_mk htb _), _, _, ([] ++ p) ++ [], ⟨[] ++ p, [], trodAll_append (args_read _ (fun _ _ => rfl)) (res_read _ _ _), no_vars _, rfl, fun b off hx => ?_, fun ha => by grind⟩, fun x hx _ => by grind⟩
  have hin : MemPlace.cell b off ∈ p ++ [] := by grind
  rw [hb.frozen (hlt _ hin)]
  exact hfz b off hin
end
end Go.Proofs.YtocppoflhllelaaGreat
namespace Go.Proofs.YtocppoflhllelaaGreat
open Go.ChangeShapes Go.WideShapes Go.ChangeAt Go.RowKit Go.Joins
section
variable {H : Type} {enc : TypeId × Value → H} {P : Program} {W : World} {base : Nat} {t : TypeId} {v : Value} {d : DataW H} {ps : List MemPlace}
theorem JeQ {x : Value} (h : v.cells.toList = [x]) (hna : ∀ cs, v ≠ .agg cs) : v = x := by
 cases v <;> first | exact absurd rfl (hna _) | grind [Value.cells]
end
end Go.Proofs.YtocppoflhllelaaGreat
namespace Go.Proofs.YtocppoflhllelaaGreat
open Go.ChangeShapes Go.WideShapes Go.ChangeAt Go.RowKit Go.Joins
section
variable {H : Type} {enc : TypeId × Value → H} {P : Program} {W : World} {base : Nat} {t : TypeId} {v : Value} {d : DataW H} {ps : List MemPlace}
end
end Go.Proofs.YtocppoflhllelaaGreat
namespace Go.Proofs.YtocppoflhllelaaGreat
open Go.ChangeShapes Go.WideShapes Go.ChangeAt Go.RowKit Go.Joins
section
variable {H : Type} {enc : TypeId × Value → H} {P : Program} {W : World} {t : TypeId} {cs : List Value}
def Rdt (enc : TypeId × Value → H) (P : Program) (W : World) (t : TypeId) (cs : List Value) : Prop := ∃ n x, DataW.trod enc P W 0 (fun _ => true) true n t cs = some x
theorem Rdt.int {k : IntKind} (h : Rdt enc P W t cs) (ht : P.underlying t = some (.int k)) : ∃ z, cs = [.int k z] ∧ k.min ≤ z ∧ z ≤ k.max := by
 obtain ⟨n, x, h⟩ := h
 grind [DataW.trod_int, Lit.wf]
theorem Rdt.i64 (h : Rdt enc P W t cs) (ht : P.underlying t = some (.int .i64)) : ∃ z, cs = [.int .i64 z] ∧ -9223372036854775808 ≤ z ∧ z ≤ 9223372036854775807 := by
 obtain ⟨z, e, h1, h2⟩ := h.int ht
 have e1 : IntKind.i64.min = -9223372036854775808 := rfl
 simp_all
theorem Rdt.u8 (h : Rdt enc P W t cs) (ht : P.underlying t = some (.int .u8)) : ∃ b : UInt8, cs = [.int .u8 (b.toNat : Int)] := by
 obtain ⟨z, e, h1, h2⟩ := h.int ht
 have e1 : IntKind.u8.min = 0 := rfl
 have e2 : IntKind.u8.max = 255 := rfl
 refine ⟨UInt8.ofNat z.toNat, ?_⟩
 rw [e]; simp; omega
theorem Rdt.bool (h : Rdt enc P W t cs) (ht : P.underlying t = some .bool) : ∃ b, cs = [.bool b] := by
 obtain ⟨n, x, h⟩ := h
 grind [DataW.trod_bool]
theorem Rdt.len_struct {fs : Array Field} (h : Rdt enc P W t cs) (ht : P.underlying t = some (.struct fs)) : cs.length = P.cellsOf t := by
 obtain ⟨n, x, h⟩ := h
 obtain ⟨xs, m, -, -, hl, -, -⟩ := DataW.trod_struct ht h
 exact hl
theorem Rdt.field {fs : Array Field} (h : Rdt enc P W t cs) (ht : P.underlying t = some (.struct fs)) (i : Nat) {f : Field} (hf : fs[i]? = some f) {k : Nat} (hk : P.cellsOf f.type = k) : Rdt enc P W f.type ((cs.drop f.offset).take k) := by
 obtain ⟨n, x, h⟩ := h
 obtain ⟨xs, m, -, -, hl, hlen, hx⟩ := DataW.trod_struct ht h
 have hlt : i < xs.length := by grind
 subst hk
 exact ⟨m, xs[i], by grind⟩
theorem Rdt.len_array {m : Nat} {e : TypeId} (h : Rdt enc P W t cs) (ht : P.underlying t = some (.array m e)) : cs.length = P.cellsOf t := by
 obtain ⟨n, x, h⟩ := h
 obtain ⟨xs, m, -, -, hl, -, -⟩ := DataW.trod_array ht h
 exact hl
theorem Rdt.elem {m : Nat} {e : TypeId} (h : Rdt enc P W t cs) (ht : P.underlying t = some (.array m e)) {k : Nat} (hk : P.cellsOf e = k) (i : Nat) (hi : i < m) : Rdt enc P W e ((cs.drop (i * k)).take k) := by
 obtain ⟨n, x, h⟩ := h
 obtain ⟨xs, q, -, -, hl, hlen, hx⟩ := DataW.trod_array ht h
 have hlt : i < xs.length := by omega
 subst hk
 exact ⟨q, xs[i], by grind⟩
theorem JaU {α : Type} {Q : Nat → α → Prop} : ∀ (n : Nat), (∀ i, i < n → ∃ a, Q i a) → ∃ xs : List α, xs.length = n ∧ ∀ i a, xs[i]? = some a → Q i a
 | 0, _ => ⟨[], rfl, fun i a h => by grind⟩
 | n + 1, h => by
   obtain ⟨xs, hl, hx⟩ := JaU n (fun i hi => h i o_)
   obtain ⟨a, ha⟩ := h n o_
   refine ⟨xs ++ [a], by grind, fun i b hb => ?_⟩
   grind
theorem JeZ (ad : Addr) (m j : Nat) : (ad.add m).add j = ad.add (m + j) := by
 grind [Addr.add]
theorem Qk {sz : Nat} : ∀ (l : List (List Value)) (i j : Nat) (r : List Value), (∀ r ∈ l, r.length = sz) → l[i]? = some r → j < sz → l.flatten[i * sz + j]? = r[j]?
 | [], i, j, r, _, h, _ => by grind
 | x :: l, 0, j, r, hl, h, hj => by
   grind
 | x :: l, i + 1, j, r, hl, h, hj => by
   have hx := hl x (by simp)
   have := Qk l i j r (fun q hq => hl q (by grind)) (by grind) hj
   grind
theorem Ep {sz : Nat} : ∀ (l : List (List Value)), (∀ r ∈ l, r.length = sz) → l.flatten.length = l.length * sz
 | [], _ => by simp
 | x :: l, hl => by rw [List.flatten_cons, List.length_append, Ep l (fun q hq => hl q (by grind)), hl x (by simp), List.length_cons, Nat.succ_mul]; omega
theorem Rdt.rows {α : Type} {Φ : α → List Value → Prop} {e sz : Nat} (h : Rdt enc P W t cs) (ht : P.underlying t = some (.slice e)) (hc : P.cellsOf e = sz) (hsz : 0 < sz) (hl : ∀ a cs, Φ a cs → cs.length = sz) (he : ∀ cs, Rdt enc P W e cs → ∃ a, Φ a cs) :
 ∃ u css, ∃ xs : List α, cs = [u] ∧ Rd 0 W.heap.size W sz u xs.length css ∧ ∀ i a, xs[i]? = some a → Φ a ((css.drop (i * sz)).take sz) := by
 obtain ⟨n, x, h⟩ := h
 rcases DataW.trod_slice ht h with ⟨rfl, -⟩ | ⟨ad, len, cap, elems, rest, m, -, rfl, -, -, hlc, hcm, hlen, hel, -, -⟩
 ·exact ⟨_, [], [], rfl, Rd.nil _ _ _ _, fun i a h => by grind⟩
 ·have each : ∀ i, i < len → ∃ q : α × List Value, W.cells? 0 (ad.add (i * sz)) sz = some q.2 ∧ Φ q.1 q.2 := fun i hi => by
   have h1 := hel i hi
   rw [hc, List.getElem?_eq_getElem o_] at h1
   obtain ⟨r, h2, h3⟩ := Option.bind_eq_some_iff.1 h1
   obtain ⟨a, ha⟩ := he r ⟨m, _, h3⟩
   exact ⟨(a, r), h2, ha⟩
  obtain ⟨qs, hql, hq⟩ := JaU len each
  have hrl : ∀ r ∈ qs.map (·.2), r.length = sz := fun r hr => by
   grind [List.getElem?_of_mem]
  have hcell : ∀ i j (r : List Value), (qs.map (·.2))[i]? = some r → j < sz → W.cell? (ad.add (i * sz + j)) = r[j]? := fun i j r hr hj => by
   rw [List.getElem?_map, Option.map_eq_some_iff] at hr
   obtain ⟨q, hq1, rfl⟩ := hr
   obtain ⟨-, h2, h3⟩ := World.cells?_some (hq i q hq1).1
   grind [JeZ]
  have hfl := Ep (qs.map (·.2)) hrl
  rw [List.length_map, hql] at hfl
  have hsp : 0 < len → ad.spot = none ∧ ad.block < W.heap.size := fun h0 => by
   obtain ⟨q, hq0⟩ : ∃ q, qs[0]? = some q := ⟨_, List.getElem?_eq_getElem o_⟩
   have hr0 : (qs.map (·.2))[0]? = some q.2 := by grind
   have h1 := hcell 0 0 q.2 hr0 hsz
   have hq2 := hrl q.2 (List.mem_of_getElem? hr0)
   rw [Nat.zero_mul, Nat.add_zero, show ad.add 0 = ad from rfl, List.getElem?_eq_getElem o_] at h1
   refine ⟨?_, block_lt_of_cell h1⟩
   unfold World.cell? at h1
   split at h1
   ·simp_all
   grind
  refine ⟨_, (qs.map (·.2)).flatten, qs.map (·.1), rfl, ?_, fun i a ha => ?_⟩
  ·rw [List.length_map, hql]
   refine ⟨hfl, by omega, .inr ⟨ad, cap, rfl, hlc, hcm, fun j hj => ?_, fun h0 => ⟨(hsp h0).1, Nat.zero_le _, (hsp h0).2⟩⟩⟩
   rw [hfl] at hj
   have hlen0 : 0 < len := by grind
   have hi : j / sz < len := Nat.div_lt_of_lt_mul (by grind)
   have hm := Nat.mod_lt j hsz
   have ej : j = j / sz * sz + j % sz := by grind [Nat.div_add_mod]
   obtain ⟨q, hq1⟩ : ∃ q, qs[j / sz]? = some q := ⟨_, List.getElem?_eq_getElem o_⟩
   have hr1 : (qs.map (·.2))[j / sz]? = some q.2 := by grind
   have h1 := hcell (j / sz) (j % sz) q.2 hr1 hm
   have h2 := Qk _ (j / sz) (j % sz) q.2 hrl hr1 hm
   rw [← ej] at h1 h2
   rw [h2, ← h1]
   obtain ⟨b, o, sp⟩ := ad
   grind [ZX]
  ·rw [List.getElem?_map, Option.map_eq_some_iff] at ha
   obtain ⟨q, hq1, rfl⟩ := ha
   have hr1 : (qs.map (·.2))[i]? = some q.2 := by grind
   have hq2 := hrl q.2 (List.mem_of_getElem? hr1)
   have : ((qs.map (·.2)).flatten.drop (i * sz)).take sz = q.2 := by
    apply List.ext_getElem?
    grind [Qk]
   grind
theorem WT {α : Type} {f : α → List Value} {sz : Nat} : ∀ (xs : List α) (css : List Value), css.length = xs.length * sz → (∀ a, (f a).length = sz) → (∀ i a, xs[i]? = some a → (css.drop (i * sz)).take sz = f a) → css = xs.flatMap f
 | [], css, hl, _, _ => by simp_all
 | x :: xs, css, hl, hf, h => by
   have h0 := h 0 x rfl
   rw [Nat.zero_mul, List.drop_zero] at h0
   have hr := WT xs (css.drop sz) (by grind [Nat.succ_mul]) hf (fun i a hi => by
    have := h (i + 1) a (by grind)
    grind [List.drop_drop])
   grind [List.take_append_drop]
theorem Rdt.flat {α : Type} {f : α → List Value} {e sz : Nat} (h : Rdt enc P W t cs) (ht : P.underlying t = some (.slice e)) (hc : P.cellsOf e = sz) (hsz : 0 < sz) (hl : ∀ a, (f a).length = sz) (he : ∀ cs, Rdt enc P W e cs → ∃ a, cs = f a) :
 ∃ u, ∃ xs : List α, cs = [u] ∧ Rd 0 W.heap.size W sz u xs.length (xs.flatMap f) := by
 obtain ⟨u, css, xs, rfl, hR, hx⟩ := h.rows (Φ := fun a cs => cs = f a) ht hc hsz (fun a cs h => by grind) he
 rw [WT xs css hR.1 hl hx] at hR
 grind
theorem JjG {e : TypeId} {base : Nat} {v : Value} {d : DataW H} {ps : List MemPlace} (ht : P.underlying t = some (.slice e)) (hv : Value.okWide P W .any base t v) (h : DataW.Trod enc P W 0 (fun _ => true) true t v d ps) : ∃ cs : List Value, Rdt enc P W t cs ∧ ∀ u, cs = [u] → v = u := by
 obtain ⟨fuel, h⟩ := h
 refine ⟨_, ⟨fuel, _, h⟩, fun u hu => ?_⟩
 unfold Value.okWide at hv
 simp only [ht] at hv
 have hv' : Cell.okWide P W .any base t v := hv
 have hna : ∀ cs, v ≠ .agg cs := fun cs hc => by subst hc; simp [Cell.okWide, Cell.ok, ht] at hv'
 grind [JeQ]
end
end Go.Proofs.YtocppoflhllelaaGreat
namespace Go.Proofs.YtocppoflhllelaaGreat
open Go.ChangeShapes Go.WideShapes Go.ChangeAt Go.RowKit Go.Joins
section
variable {H : Type} {enc : TypeId × Value → H} {W : World} {cs : List Value}
theorem JiC (h : Rdt enc Tryz.prog W 43 cs) : ∃ n : Nm, cs = n.cells.toList := by
 have hl := h.len_struct Tryz.underlying43
 rw [show Tryz.prog.cellsOf 43 = 3 by kernel_rfl] at hl
 match cs, hl with
 | [c0, c1, c2], _ =>
   have k1 : Tryz.prog.cellsOf 3 = 1 := by kernel_rfl
   obtain ⟨z0, e0, -⟩ := (show Rdt enc Tryz.prog W 3 [c0] from h.field Tryz.underlying43 0 rfl k1).i64 Tryz.underlying3
   obtain ⟨z1, e1, -⟩ := (show Rdt enc Tryz.prog W 3 [c1] from h.field Tryz.underlying43 1 rfl k1).i64 Tryz.underlying3
   obtain ⟨z2, e2, -⟩ := (show Rdt enc Tryz.prog W 3 [c2] from h.field Tryz.underlying43 2 rfl k1).i64 Tryz.underlying3
   cases e0; cases e1; cases e2
   exact ⟨⟨z0, z1, z2⟩, rfl⟩
theorem JdD (h : Rdt enc Tryz.prog W 39 cs) : ∃ v : V8, cs = v.cellsL := by
 have hl := h.len_array Tryz.underlying39
 rw [show Tryz.prog.cellsOf 39 = 8 by kernel_rfl] at hl
 match cs, hl with
 | [c0, c1, c2, c3, c4, c5, c6, c7], _ =>
   have k1 : Tryz.prog.cellsOf 5 = 1 := by kernel_rfl
   obtain ⟨z0, e0⟩ := (show Rdt enc Tryz.prog W 5 [c0] from h.elem Tryz.underlying39 k1 0 o_).u8 Tryz.underlying5
   obtain ⟨z1, e1⟩ := (show Rdt enc Tryz.prog W 5 [c1] from h.elem Tryz.underlying39 k1 1 o_).u8 Tryz.underlying5
   obtain ⟨z2, e2⟩ := (show Rdt enc Tryz.prog W 5 [c2] from h.elem Tryz.underlying39 k1 2 o_).u8 Tryz.underlying5
   obtain ⟨z3, e3⟩ := (show Rdt enc Tryz.prog W 5 [c3] from h.elem Tryz.underlying39 k1 3 o_).u8 Tryz.underlying5
   obtain ⟨z4, e4⟩ := (show Rdt enc Tryz.prog W 5 [c4] from h.elem Tryz.underlying39 k1 4 o_).u8 Tryz.underlying5
   obtain ⟨z5, e5⟩ := (show Rdt enc Tryz.prog W 5 [c5] from h.elem Tryz.underlying39 k1 5 o_).u8 Tryz.underlying5
   obtain ⟨z6, e6⟩ := (show Rdt enc Tryz.prog W 5 [c6] from h.elem Tryz.underlying39 k1 6 o_).u8 Tryz.underlying5
   obtain ⟨z7, e7⟩ := (show Rdt enc Tryz.prog W 5 [c7] from h.elem Tryz.underlying39 k1 7 o_).u8 Tryz.underlying5
   cases e0; cases e1; cases e2; cases e3; cases e4; cases e5; cases e6; cases e7
   exact ⟨⟨z0, z1, z2, z3, z4, z5, z6, z7⟩, rfl⟩
theorem JiB (h : Rdt enc Tryz.prog W 108 cs) : ∃ x : Wr, cs = x.cellsL := by
 have hl := h.len_struct Tryz.underlying108
 rw [show Tryz.prog.cellsOf 108 = 9 by kernel_rfl] at hl
 match cs, hl with
 | [c0, c1, c2, c3, c4, c5, c6, c7, c8], _ =>
   obtain ⟨z0, e0, -⟩ := (show Rdt enc Tryz.prog W 3 [c0] from h.field Tryz.underlying108 0 rfl (k := 1) k_).i64 Tryz.underlying3
   obtain ⟨v, e1⟩ := JdD (show Rdt enc Tryz.prog W 39 [c1, c2, c3, c4, c5, c6, c7, c8] from h.field Tryz.underlying108 1 rfl (k := 8) k_)
   cases e0
   exact ⟨⟨z0, v⟩, by rw [e1]⟩
theorem JiA {t : TypeId} (h : Rdt enc Tryz.prog W t cs) (ht : Tryz.prog.underlying t = some (.slice 108)) : ∃ u x, cs = [u] ∧ Ws 0 W.heap.size W u x :=
 h.flat (f := Wr.cellsL) ht k_ o_ (fun _ => rfl) (fun _ h => JiB h)
end
end Go.Proofs.YtocppoflhllelaaGreat
