/-
  Records, plainly: which may be, their bytes, how bytes are taken.
-/
import Derived.Test.YtbaoodlkcbiclaaPack
import Derived.Test.YtbaoodlkcbiclaaWs
namespace Go.Proofs.Ytbaoodlkcbiclaa
open Go.RowKit Go.Sort

def withinB (n m : Int) : Bool := decide (1 ≤ n ∧ n ≤ m)
def Nm.named (n : Nm) : Bool := withinB n.stamp 1048576 && withinB n.inc 1048576 && withinB n.try_ 1048576
def bitsB (n : Int) : Bool := decide (0 ≤ n ∧ n < 256)
def changedB (s t : Int) : Bool := decide ((s = -1 ∧ t = 0) ∨ (0 ≤ s ∧ s < 8 ∧ 1 ≤ t ∧ t ≤ 4))
def shardsB (n : Int) : Bool := decide (0 < n ∧ n < 32 ∧ n % 2 = 0)
def andV (x y : Int) : Int := IntKind.i64.wrap (BitVec.ofInt IntKind.i64.bits x &&& BitVec.ofInt IntKind.i64.bits y).toNat
def andNotV (x y : Int) : Int := IntKind.i64.wrap (BitVec.ofInt IntKind.i64.bits x &&& ~~~BitVec.ofInt IntKind.i64.bits y).toNat
/-- writes rise, from last on, and their blocks are blocks -/
def risingB (last : Int) : List Wr → Bool
  | [] => true
  | w :: r => decide (last < w.block ∧ w.block < 32) && risingB w.block r
def writtenB (ws : List Wr) : Bool := decide (ws.length ≤ 8) && risingB (-1) ws

def Rc.same (a b : Rc) (x y : List Wr) : Bool :=
  a.kind == b.kind && a.name.eqb b.name && a.yes == b.yes && eqWs x y && a.give == b.give && a.take == b.take && a.shards == b.shards && (a.cs == b.cs && a.ct == b.ct) && a.n == b.n
theorem Rc.same_iff {a b : Rc} {x y : List Wr} : a.same b x y = true ↔ a = b ∧ x = y := by
  cases a; cases b
  simp [Rc.same, Nm.eqb_iff, eqWs_iff]
  constructor
  · rintro ⟨⟨⟨⟨⟨⟨⟨⟨h1, h2⟩, h3⟩, h4⟩, h5⟩, h6⟩, h7⟩, h8, h9⟩, h10⟩
    exact ⟨⟨h1, h2, h3, h5, h6, h7, h8, h9, h10⟩, h4⟩
  · rintro ⟨⟨h1, h2, h3, h5, h6, h7, h8, h9, h10⟩, h4⟩
    exact ⟨⟨⟨⟨⟨⟨⟨⟨h1, h2⟩, h3⟩, h4⟩, h5⟩, h6⟩, h7⟩, h8, h9⟩, h10⟩

def Nm.zero : Nm := ⟨0, 0, 0⟩
def Rc.zero : Rc := ⟨0, ⟨0, 0, 0⟩, false, 0, 0, 0, 0, 0, 0⟩
/-- are the fields of a record's kind such as they may be? -/
def Rc.ok (r : Rc) (x : List Wr) : Bool :=
  if r.kind = 1 then r.name.named && writtenB x
  else if r.kind = 2 then r.name.named && writtenB x && bitsB r.give && bitsB r.take && andV r.give r.take == 0
  else if r.kind = 3 then r.name.named
  else if r.kind = 4 then r.name.named && shardsB r.shards && changedB r.cs r.ct
  else if r.kind = 5 then r.name.named
  else if r.kind = 6 then withinB r.n 1048577
  else withinB r.n 1048576
/-- what a record's kind does not name -/
def Rc.rest (r : Rc) : Rc :=
  if r.kind = 1 then { r with name := ⟨0, 0, 0⟩ }
  else if r.kind = 2 then { r with name := ⟨0, 0, 0⟩, give := 0, take := 0 }
  else if r.kind = 3 then { r with name := ⟨0, 0, 0⟩, yes := false }
  else if r.kind = 4 then { r with name := ⟨0, 0, 0⟩, shards := 0, cs := 0, ct := 0 }
  else if r.kind = 5 then { r with name := ⟨0, 0, 0⟩ }
  else { r with n := 0 }
/-- may a record be? -/
def Rc.may (r : Rc) (x : List Wr) : Bool :=
  if 1 ≤ r.kind ∧ r.kind ≤ 7 then r.ok x && r.rest.same ⟨r.kind, ⟨0, 0, 0⟩, false, 0, 0, 0, 0, 0, 0⟩ (if r.kind = 1 ∨ r.kind = 2 then [] else x) [] else false

theorem kinds {r : Rc} {x : List Wr} (h : r.may x = true) : r.kind = 1 ∨ r.kind = 2 ∨ r.kind = 3 ∨ r.kind = 4 ∨ r.kind = 5 ∨ r.kind = 6 ∨ r.kind = 7 := by
  unfold Rc.may at h
  split at h
  · omega
  · cases h

/-! ### bytes -/
def nmB (n : Nm) : List UInt8 := leB n.stamp 3 ++ (leB n.inc 3 ++ leB n.try_ 3)
def V8.bs (v : V8) : List UInt8 := [v.v0, v.v1, v.v2, v.v3, v.v4, v.v5, v.v6, v.v7]
def wrB (x : Wr) : List UInt8 := leB x.block 1 ++ x.val.bs
def wrsB (ws : List Wr) : List UInt8 := ws.flatMap wrB
def wsB (ws : List Wr) : List UInt8 := leB ws.length 1 ++ wrsB ws
def Rc.body (r : Rc) (x : List Wr) : List UInt8 :=
  if r.kind = 1 then nmB r.name ++ wsB x
  else if r.kind = 2 then nmB r.name ++ (wsB x ++ (leB r.give 1 ++ leB r.take 1))
  else if r.kind = 3 then nmB r.name ++ leB (if r.yes then 1 else 0) 1
  else if r.kind = 4 then nmB r.name ++ (leB r.shards 1 ++ (leB (r.cs + 1) 1 ++ leB r.ct 1))
  else if r.kind = 5 then nmB r.name
  else leB r.n 3
def Rc.enc (r : Rc) (x : List Wr) : List UInt8 := leB r.kind 1 ++ r.body x

theorem leB1 (n : Int) : leB n 1 = [byteOf n] := by simp [leB]
theorem leB3 (n : Int) : leB n 3 = [byteOf n, byteOf (n / 256), byteOf (n / 65536)] := by simp [leB, List.range, List.range.loop]
theorem byteOf_toNat (i : Int) : ((byteOf i).toNat : Int) = i % 256 := by
  have h1 : 0 ≤ i % 256 := Int.emod_nonneg _ (by omega)
  have h2 : i % 256 < 256 := Int.emod_lt_of_pos _ (by omega)
  unfold byteOf
  have : (UInt8.ofNat (i % 256).toNat).toNat = (i % 256).toNat := by simp; omega
  rw [this]; omega
theorem leN_leB1 {n : Int} (h0 : 0 ≤ n) (h : n < 256) : (leN (leB n 1) : Int) = n := by
  rw [leB1]; simp only [leN]
  have := byteOf_toNat n
  have e := Int.emod_eq_of_lt h0 h
  omega
theorem leN_leB3 {n : Int} (h0 : 0 ≤ n) (h : n < 16777216) : (leN (leB n 3) : Int) = n := by
  rw [leB3]; simp only [leN]
  have e0 := byteOf_toNat n
  have e1 := byteOf_toNat (n / 256)
  have e2 := byteOf_toNat (n / 65536)
  omega

/-! ### taking -/
structure Rs where
  at_ : Nat
  bad : Bool
def tk (bs : List UInt8) (k : Nat) (s : Rs) : Int × Rs :=
  if s.at_ + k ≤ bs.length then (leN ((bs.drop s.at_).take k), ⟨s.at_ + k, s.bad⟩) else (0, ⟨s.at_, true⟩)
theorem tk_at (pre mid post : List UInt8) (b : Bool) : tk (pre ++ (mid ++ post)) mid.length ⟨pre.length, b⟩ = ((leN mid : Int), ⟨pre.length + mid.length, b⟩) := by
  unfold tk
  rw [if_pos (by simp only [List.length_append]; omega)]
  simp
theorem tk_bad {bs : List UInt8} {k : Nat} {s : Rs} (h : (tk bs k s).2.bad = false) : s.bad = false := by
  unfold tk at h; split at h
  · exact h
  · cases h
def rdName (bs : List UInt8) (s : Rs) : Nm × Rs :=
  let a := tk bs 3 s
  let b := tk bs 3 a.2
  let c := tk bs 3 b.2
  (⟨a.1, b.1, c.1⟩, c.2)
/-- k bytes, each taken by itself -/
def rdBs (bs : List UInt8) : Nat → Rs → List UInt8 × Rs
  | 0, s => ([], s)
  | k + 1, s => let a := tk bs 1 s; let r := rdBs bs k a.2; (byteOf a.1 :: r.1, r.2)
def v8 (l : List UInt8) : V8 := ⟨l.getD 0 0, l.getD 1 0, l.getD 2 0, l.getD 3 0, l.getD 4 0, l.getD 5 0, l.getD 6 0, l.getD 7 0⟩
def rdWr (bs : List UInt8) (s : Rs) : Wr × Rs := let a := tk bs 1 s; let v := rdBs bs 8 a.2; (⟨a.1, v8 v.1⟩, v.2)
def rdWrs (bs : List UInt8) : Nat → Rs → List Wr × Rs
  | 0, s => ([], s)
  | k + 1, s => let a := rdWr bs s; let r := rdWrs bs k a.2; (a.1 :: r.1, r.2)
def rdWs (bs : List UInt8) (s : Rs) : List Wr × Rs := let a := tk bs 1 s; rdWrs bs (min a.1 8).toNat a.2
def rdBody (bs : List UInt8) (kind : Int) (s : Rs) : Rc × List Wr × Rs :=
  if kind = 1 then
    let a := rdName bs s; let l := rdWs bs a.2
    ({ Rc.zero with kind := kind, name := a.1 }, l.1, l.2)
  else if kind = 2 then
    let a := rdName bs s; let l := rdWs bs a.2; let g := tk bs 1 l.2; let t := tk bs 1 g.2
    ({ Rc.zero with kind := kind, name := a.1, give := g.1, take := t.1 }, l.1, t.2)
  else if kind = 3 then
    let a := rdName bs s; let y := tk bs 1 a.2
    ({ Rc.zero with kind := kind, name := a.1, yes := y.1 == 1 }, [], y.2)
  else if kind = 4 then
    let a := rdName bs s; let x := tk bs 1 a.2; let y := tk bs 1 x.2; let z := tk bs 1 y.2
    ({ Rc.zero with kind := kind, name := a.1, shards := x.1, cs := y.1 - 1, ct := z.1 }, [], z.2)
  else if kind = 5 then
    let a := rdName bs s
    ({ Rc.zero with kind := kind, name := a.1 }, [], a.2)
  else
    let a := tk bs 3 s
    ({ Rc.zero with kind := kind, n := a.1 }, [], a.2)

theorem tk1 (pre post : List UInt8) (b : Bool) {n : Int} (h0 : 0 ≤ n) (h : n < 256) : tk (pre ++ (leB n 1 ++ post)) 1 ⟨pre.length, b⟩ = (n, ⟨(pre ++ leB n 1).length, b⟩) := by
  have := tk_at pre (leB n 1) post b
  rw [leB_length, leN_leB1 h0 h] at this
  rw [this, List.length_append, leB_length]
theorem tk3 (pre post : List UInt8) (b : Bool) {n : Int} (h0 : 0 ≤ n) (h : n < 16777216) : tk (pre ++ (leB n 3 ++ post)) 3 ⟨pre.length, b⟩ = (n, ⟨(pre ++ leB n 3).length, b⟩) := by
  have := tk_at pre (leB n 3) post b
  rw [leB_length, leN_leB3 h0 h] at this
  rw [this, List.length_append, leB_length]
theorem named_iff {n : Nm} : n.named = true ↔ (1 ≤ n.stamp ∧ n.stamp ≤ 1048576) ∧ (1 ≤ n.inc ∧ n.inc ≤ 1048576) ∧ (1 ≤ n.try_ ∧ n.try_ ≤ 1048576) := by
  simp [Nm.named, withinB, and_assoc]
theorem rdName_at (pre post : List UInt8) (b : Bool) {n : Nm} (h : n.named = true) : rdName (pre ++ (nmB n ++ post)) ⟨pre.length, b⟩ = (n, ⟨(pre ++ nmB n).length, b⟩) := by
  obtain ⟨h1, h2, h3⟩ := named_iff.1 h
  have e : pre ++ (nmB n ++ post) = pre ++ (leB n.stamp 3 ++ (leB n.inc 3 ++ (leB n.try_ 3 ++ post))) := by simp [nmB]
  have e1 := tk3 pre (leB n.inc 3 ++ (leB n.try_ 3 ++ post)) b (n := n.stamp) (by omega) (by omega)
  have e2 := tk3 (pre ++ leB n.stamp 3) (leB n.try_ 3 ++ post) b (n := n.inc) (by omega) (by omega)
  have e3 := tk3 (pre ++ leB n.stamp 3 ++ leB n.inc 3) post b (n := n.try_) (by omega) (by omega)
  simp only [List.append_assoc] at e2 e3
  unfold rdName
  simp only [e, e1, e2, e3]
  simp [nmB]
theorem leN_one (x : UInt8) : leN [x] = x.toNat := by simp [leN]
theorem byteOf_of (x : UInt8) : byteOf (x.toNat : Int) = x := by
  have := UInt8.toNat_lt x
  apply UInt8.toNat_inj.1
  have := byteOf_toNat (x.toNat : Int)
  omega
theorem rdBs_at : ∀ (mid pre post : List UInt8) (b : Bool), rdBs (pre ++ (mid ++ post)) mid.length ⟨pre.length, b⟩ = (mid, ⟨(pre ++ mid).length, b⟩)
  | [], pre, post, b => by simp [rdBs]
  | x :: mid, pre, post, b => by
    have e1 := tk_at pre [x] (mid ++ post) b
    have e2 := rdBs_at mid (pre ++ [x]) post b
    simp only [List.append_assoc, List.cons_append, List.nil_append, List.length_cons, List.length_nil, Nat.zero_add] at e1 e2
    simp only [List.cons_append, List.length_cons, rdBs, e1, leN_one, byteOf_of]
    have e3 : pre.length + 1 = (pre ++ [x]).length := by simp
    rw [e3, e2]
theorem v8_bs (v : V8) : v8 v.bs = v := by cases v; rfl
theorem rdWr_at (pre post : List UInt8) (b : Bool) {x : Wr} (h0 : 0 ≤ x.block) (h : x.block < 256) : rdWr (pre ++ (wrB x ++ post)) ⟨pre.length, b⟩ = (x, ⟨(pre ++ wrB x).length, b⟩) := by
  have e1 := tk1 pre (x.val.bs ++ post) b h0 h
  have e2 := rdBs_at x.val.bs (pre ++ leB x.block 1) post b
  simp only [List.append_assoc] at e2
  unfold rdWr wrB
  simp only [List.append_assoc, e1]
  rw [show (8 : Nat) = x.val.bs.length from rfl, e2]
  simp [v8_bs]
theorem rdWrs_at : ∀ (ws : List Wr) (pre post : List UInt8) (b : Bool), (∀ x ∈ ws, 0 ≤ x.block ∧ x.block < 256) → rdWrs (pre ++ (wrsB ws ++ post)) ws.length ⟨pre.length, b⟩ = (ws, ⟨(pre ++ wrsB ws).length, b⟩)
  | [], pre, post, b, _ => by simp [rdWrs, wrsB]
  | x :: ws, pre, post, b, h => by
    have hx := h x (List.mem_cons_self ..)
    have e1 := rdWr_at pre (wrsB ws ++ post) b hx.1 hx.2
    have e2 := rdWrs_at ws (pre ++ wrB x) post b (fun y hy => h y (List.mem_cons_of_mem _ hy))
    have ew : wrsB (x :: ws) = wrB x ++ wrsB ws := by simp [wrsB]
    simp only [List.append_assoc] at e2
    rw [ew]
    simp only [List.append_assoc, List.length_cons, rdWrs, e1, e2]
theorem rising_mem : ∀ {ws : List Wr} {l : Int}, risingB l ws = true → ∀ x ∈ ws, l < x.block ∧ x.block < 32
  | [], _, _, x, hx => by cases hx
  | y :: ws, l, h, x, hx => by
    simp only [risingB, Bool.and_eq_true, decide_eq_true_eq] at h
    rcases List.mem_cons.1 hx with rfl | hx
    · exact h.1
    · have := rising_mem h.2 x hx; omega
theorem rdWs_at (pre post : List UInt8) (b : Bool) {ws : List Wr} (h : writtenB ws = true) : rdWs (pre ++ (wsB ws ++ post)) ⟨pre.length, b⟩ = (ws, ⟨(pre ++ wsB ws).length, b⟩) := by
  simp only [writtenB, Bool.and_eq_true, decide_eq_true_eq] at h
  have e1 := tk1 pre (wrsB ws ++ post) b (n := (ws.length : Int)) (by omega) (by omega)
  have e2 := rdWrs_at ws (pre ++ leB ws.length 1) post b (fun x hx => by have := rising_mem h.2 x hx; omega)
  simp only [List.append_assoc] at e2
  unfold rdWs wsB
  simp only [List.append_assoc, e1]
  rw [show (min (ws.length : Int) 8).toNat = ws.length by omega, e2]

/-- what a record that may be is, kind by kind -/
theorem may_cases {r : Rc} {x : List Wr} (h : r.may x = true) :
    (r.kind = 1 ∧ r = { Rc.zero with kind := 1, name := r.name } ∧ r.name.named = true ∧ writtenB x = true) ∨
    (r.kind = 2 ∧ r = { Rc.zero with kind := 2, name := r.name, give := r.give, take := r.take } ∧ r.name.named = true ∧ writtenB x = true ∧ bitsB r.give = true ∧ bitsB r.take = true ∧ andV r.give r.take = 0) ∨
    (r.kind = 3 ∧ r = { Rc.zero with kind := 3, name := r.name, yes := r.yes } ∧ x = [] ∧ r.name.named = true) ∨
    (r.kind = 4 ∧ r = { Rc.zero with kind := 4, name := r.name, shards := r.shards, cs := r.cs, ct := r.ct } ∧ x = [] ∧ r.name.named = true ∧ shardsB r.shards = true ∧ changedB r.cs r.ct = true) ∨
    (r.kind = 5 ∧ r = { Rc.zero with kind := 5, name := r.name } ∧ x = [] ∧ r.name.named = true) ∨
    (r.kind = 6 ∧ r = { Rc.zero with kind := 6, n := r.n } ∧ x = [] ∧ withinB r.n 1048577 = true) ∨
    (r.kind = 7 ∧ r = { Rc.zero with kind := 7, n := r.n } ∧ x = [] ∧ withinB r.n 1048576 = true) := by
  have hk := kinds h
  unfold Rc.may at h
  rw [if_pos (by omega)] at h
  simp only [Bool.and_eq_true, Rc.same_iff] at h
  obtain ⟨ho, hr, hx⟩ := h
  cases r
  rename_i kind name yes give take shards cs ct n
  simp only at hk ⊢
  rcases hk with rfl | rfl | rfl | rfl | rfl | rfl | rfl <;> simp_all [Rc.ok, Rc.rest, Rc.zero]

theorem rdBody_enc {r : Rc} {x : List Wr} (h : r.may x = true) (rest : List UInt8) : rdBody (r.enc x ++ rest) r.kind ⟨1, false⟩ = (r, x, ⟨(r.enc x).length, false⟩) := by
  have hl1 : (leB r.kind 1).length = 1 := leB_length _ _
  rcases may_cases h with ⟨hk, hr, hn, hw⟩ | ⟨hk, hr, hn, hw, hg, ht, -⟩ | ⟨hk, hr, rfl, hn⟩ | ⟨hk, hr, rfl, hn, hs, hc⟩ | ⟨hk, hr, rfl, hn⟩ | ⟨hk, hr, rfl, hn⟩ | ⟨hk, hr, rfl, hn⟩
  · have e1 := rdName_at (leB r.kind 1) (wsB x ++ rest) false hn
    have e2 := rdWs_at (leB r.kind 1 ++ nmB r.name) rest false hw
    rw [hl1] at e1
    simp only [List.append_assoc] at e2
    unfold rdBody Rc.enc Rc.body
    simp only [hk, List.append_assoc, reduceIte] at e1 e2 ⊢
    simp only [e1, e2]
    rw [← hr]
  · simp only [bitsB, decide_eq_true_eq] at hg ht
    have e1 := rdName_at (leB r.kind 1) (wsB x ++ (leB r.give 1 ++ (leB r.take 1 ++ rest))) false hn
    have e2 := rdWs_at (leB r.kind 1 ++ nmB r.name) (leB r.give 1 ++ (leB r.take 1 ++ rest)) false hw
    have e3 := tk1 (leB r.kind 1 ++ nmB r.name ++ wsB x) (leB r.take 1 ++ rest) false (n := r.give) (by omega) (by omega)
    have e4 := tk1 (leB r.kind 1 ++ nmB r.name ++ wsB x ++ leB r.give 1) rest false (n := r.take) (by omega) (by omega)
    rw [hl1] at e1
    simp only [List.append_assoc] at e2 e3 e4
    unfold rdBody Rc.enc Rc.body
    simp only [hk, List.append_assoc, reduceIte, show ¬ (2 : Int) = 1 by omega] at e1 e2 e3 e4 ⊢
    simp only [e1, e2, e3, e4]
    rw [← hr]
  · have e1 := rdName_at (leB r.kind 1) (leB (if r.yes then 1 else 0) 1 ++ rest) false hn
    have e2 := tk1 (leB r.kind 1 ++ nmB r.name) rest false (n := if r.yes then 1 else 0) (by split <;> omega) (by split <;> omega)
    rw [hl1] at e1
    simp only [List.append_assoc] at e2
    unfold rdBody Rc.enc Rc.body
    simp only [hk, List.append_assoc, reduceIte, show ¬ (3 : Int) = 1 by omega, show ¬ (3 : Int) = 2 by omega] at e1 e2 ⊢
    simp only [e1, e2]
    have ey : ((if r.yes then (1 : Int) else 0) == 1) = r.yes := by cases r.yes <;> rfl
    rw [ey, ← hr]
  · simp only [shardsB, changedB, decide_eq_true_eq] at hs hc
    have e1 := rdName_at (leB r.kind 1) (leB r.shards 1 ++ (leB (r.cs + 1) 1 ++ (leB r.ct 1 ++ rest))) false hn
    have e2 := tk1 (leB r.kind 1 ++ nmB r.name) (leB (r.cs + 1) 1 ++ (leB r.ct 1 ++ rest)) false (n := r.shards) (by omega) (by omega)
    have e3 := tk1 (leB r.kind 1 ++ nmB r.name ++ leB r.shards 1) (leB r.ct 1 ++ rest) false (n := r.cs + 1) (by omega) (by omega)
    have e4 := tk1 (leB r.kind 1 ++ nmB r.name ++ leB r.shards 1 ++ leB (r.cs + 1) 1) rest false (n := r.ct) (by omega) (by omega)
    rw [hl1] at e1
    simp only [List.append_assoc] at e2 e3 e4
    unfold rdBody Rc.enc Rc.body
    simp only [hk, List.append_assoc, reduceIte, show ¬ (4 : Int) = 1 by omega, show ¬ (4 : Int) = 2 by omega, show ¬ (4 : Int) = 3 by omega] at e1 e2 e3 e4 ⊢
    simp only [e1, e2, e3, e4]
    have ec : r.cs + 1 - 1 = r.cs := by omega
    rw [ec, ← hr]
  · have e1 := rdName_at (leB r.kind 1) rest false hn
    rw [hl1] at e1
    unfold rdBody Rc.enc Rc.body
    simp only [hk, List.append_assoc, reduceIte, show ¬ (5 : Int) = 1 by omega, show ¬ (5 : Int) = 2 by omega, show ¬ (5 : Int) = 3 by omega, show ¬ (5 : Int) = 4 by omega] at e1 ⊢
    simp only [e1]
    rw [← hr]
  · simp only [withinB, decide_eq_true_eq] at hn
    have e1 := tk3 (leB r.kind 1) rest false (n := r.n) (by omega) (by omega)
    rw [hl1] at e1
    unfold rdBody Rc.enc Rc.body
    simp only [hk, List.append_assoc, reduceIte, show ¬ (6 : Int) = 1 by omega, show ¬ (6 : Int) = 2 by omega, show ¬ (6 : Int) = 3 by omega, show ¬ (6 : Int) = 4 by omega, show ¬ (6 : Int) = 5 by omega] at e1 ⊢
    simp only [e1]
    rw [← hr]
  · simp only [withinB, decide_eq_true_eq] at hn
    have e1 := tk3 (leB r.kind 1) rest false (n := r.n) (by omega) (by omega)
    rw [hl1] at e1
    unfold rdBody Rc.enc Rc.body
    simp only [hk, List.append_assoc, reduceIte, show ¬ (7 : Int) = 1 by omega, show ¬ (7 : Int) = 2 by omega, show ¬ (7 : Int) = 3 by omega, show ¬ (7 : Int) = 4 by omega, show ¬ (7 : Int) = 5 by omega] at e1 ⊢
    simp only [e1]
    rw [← hr]

theorem enc_head (r : Rc) (x : List Wr) : r.enc x = byteOf r.kind :: r.body x := by unfold Rc.enc; rw [leB1]; rfl
/-- bytes that begin one another are alike -/
theorem enc_inj {r s : Rc} {x y : List Wr} (hr : r.may x = true) (hs : s.may y = true) {rest : List UInt8} (h : r.enc x = s.enc y ++ rest) : r = s ∧ x = y ∧ rest = [] := by
  have hk : r.kind = s.kind := by
    have k1 := kinds hr; have k2 := kinds hs
    rw [enc_head, enc_head, List.cons_append] at h
    have := (List.cons.inj h).1
    have e1 := byteOf_toNat r.kind; have e2 := byteOf_toNat s.kind
    rw [this] at e1
    omega
  have h1 := rdBody_enc hr []
  have h2 := rdBody_enc hs rest
  rw [List.append_nil, h, hk, h2] at h1
  simp only [Prod.mk.injEq, Rs.mk.injEq, and_true] at h1
  obtain ⟨rfl, rfl, hl⟩ := h1
  rw [List.length_append] at hl
  exact ⟨rfl, rfl, List.eq_nil_of_length_eq_zero (by omega)⟩
theorem enc_len {r : Rc} {x : List Wr} (h : r.may x = true) : 1 ≤ (r.enc x).length ∧ (r.enc x).length ≤ 90 := by
  have hw : ∀ ws : List Wr, (wrsB ws).length = ws.length * 9 := fun ws => by
    induction ws with
    | nil => rfl
    | cons a ws ih => rw [show wrsB (a :: ws) = wrB a ++ wrsB ws by simp [wrsB], List.length_append, ih]; simp [wrB, leB_length, V8.bs]; omega
  have hn : ∀ n : Nm, (nmB n).length = 9 := fun n => by simp [nmB, leB_length]
  have h8 : writtenB x = true → x.length ≤ 8 := fun h => by simp only [writtenB, Bool.and_eq_true, decide_eq_true_eq] at h; exact h.1
  unfold Rc.enc Rc.body
  rcases may_cases h with ⟨hk, -, -, h1⟩ | ⟨hk, -, -, h1, -⟩ | ⟨hk, -⟩ | ⟨hk, -⟩ | ⟨hk, -⟩ | ⟨hk, -⟩ | ⟨hk, -⟩ <;> simp [hk, leB_length, hn, wsB, hw]
  · have := h8 h1; omega
  · have := h8 h1; omega

end Go.Proofs.Ytbaoodlkcbiclaa
