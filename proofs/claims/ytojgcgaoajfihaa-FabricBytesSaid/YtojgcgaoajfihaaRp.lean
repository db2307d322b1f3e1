/-
  Records, plainly: their bytes, how bytes are taken.
-/
import Derived.Test.YtojgcgaoajfihaaLe
import Derived.Test.YtojgcgaoajfihaaRm
namespace Go.Proofs.Ytojgcgaoajfihaa
open Go.RowKit Go.Sort

/-! ### bytes -/
def nmB (n : Nm) : List UInt8 := leB n.stamp 3 ++ (leB n.inc 3 ++ leB n.try_ 3)
def V8.bs (v : V8) : List UInt8 := [v.v0, v.v1, v.v2, v.v3, v.v4, v.v5, v.v6, v.v7]
def wrB (x : Wr) : List UInt8 := leB x.block 1 ++ x.val.bs
def wrsB (ws : List Wr) : List UInt8 := ws.flatMap wrB
def wsB (ws : List Wr) : List UInt8 := leB ws.length 1 ++ wrsB ws
theorem wrsB_succ {x : List Wr} {k : Nat} {p : Wr} (h : x[k]? = some p) : wrsB (x.take (k + 1)) = wrsB (x.take k) ++ wrB p := by
  obtain ⟨hlt, he⟩ := List.getElem?_eq_some_iff.1 h
  rw [List.take_succ_eq_append_getElem hlt, he]; simp [wrsB]
theorem wrsB_len (x : List Wr) : (wrsB x).length = x.length * 9 := by
  induction x with
  | nil => rfl
  | cons a ws ih => rw [show wrsB (a :: ws) = wrB a ++ wrsB ws by simp [wrsB], List.length_append, ih]; simp [wrB, leB_length, V8.bs]; omega
def Rc.body (r : Rc) (x : List Wr) : List UInt8 :=
  if r.kind = 1 then nmB r.name ++ wsB x
  else if r.kind = 2 then nmB r.name ++ (wsB x ++ (leB r.give 1 ++ leB r.take 1))
  else if r.kind = 3 then nmB r.name ++ leB (if r.yes then 1 else 0) 1
  else if r.kind = 4 then nmB r.name ++ (leB r.shards 1 ++ (leB (r.cs + 1) 1 ++ leB r.ct 1))
  else if r.kind = 5 then nmB r.name
  else leB r.n 3
def Rc.enc (r : Rc) (x : List Wr) : List UInt8 := leB r.kind 1 ++ r.body x

theorem i8_in {i : Int} (h : 0 ≤ i ∧ i < 128) : IntKind.i8.wrap i = i := by
  simp [IntKind.wrap, IntKind.bits, IntKind.signed]; omega
theorem leB1 (n : Int) : leB n 1 = [byteOf n] := by simp [leB]
theorem leB3 (n : Int) : leB n 3 = [byteOf n, byteOf (n / 256), byteOf (n / 65536)] := by simp [leB, List.range, List.range.loop]
theorem byteOf_toNat (i : Int) : ((byteOf i).toNat : Int) = i % 256 := by
  have h1 : 0 ≤ i % 256 := Int.emod_nonneg _ (by omega)
  have h2 : i % 256 < 256 := Int.emod_lt_of_pos _ (by omega)
  unfold byteOf
  have : (UInt8.ofNat (i % 256).toNat).toNat = (i % 256).toNat := by simp; omega
  rw [this]; omega
theorem leN_leB1 {n : Int} (h0 : 0 ≤ n) (h : n < 256) : (leN (leB n 1) : Int) = n := by
  rw [leB1]; simp only [leN]
  have := byteOf_toNat n
  have e := Int.emod_eq_of_lt h0 h
  omega
theorem leN_leB3 {n : Int} (h0 : 0 ≤ n) (h : n < 16777216) : (leN (leB n 3) : Int) = n := by
  rw [leB3]; simp only [leN]
  have e0 := byteOf_toNat n
  have e1 := byteOf_toNat (n / 256)
  have e2 := byteOf_toNat (n / 65536)
  omega

/-! ### taking -/
structure Rs where
  at_ : Nat
  bad : Bool
def tk (bs : List UInt8) (k : Nat) (s : Rs) : Int × Rs :=
  if s.at_ + k ≤ bs.length then (leN ((bs.drop s.at_).take k), ⟨s.at_ + k, s.bad⟩) else (0, ⟨s.at_, true⟩)
theorem tk_at (pre mid post : List UInt8) (b : Bool) : tk (pre ++ (mid ++ post)) mid.length ⟨pre.length, b⟩ = ((leN mid : Int), ⟨pre.length + mid.length, b⟩) := by
  unfold tk
  rw [if_pos (by simp only [List.length_append]; omega)]
  simp
theorem tk_bad {bs : List UInt8} {k : Nat} {s : Rs} (h : (tk bs k s).2.bad = false) : s.bad = false := by
  unfold tk at h; split at h
  · exact h
  · cases h
def rdName (bs : List UInt8) (s : Rs) : Nm × Rs :=
  let a := tk bs 3 s
  let b := tk bs 3 a.2
  let c := tk bs 3 b.2
  (⟨a.1, b.1, c.1⟩, c.2)
/-- k bytes, each taken by itself -/
def rdBs (bs : List UInt8) : Nat → Rs → List UInt8 × Rs
  | 0, s => ([], s)
  | k + 1, s => let a := tk bs 1 s; let r := rdBs bs k a.2; (byteOf a.1 :: r.1, r.2)
def v8 (l : List UInt8) : V8 := ⟨l.getD 0 0, l.getD 1 0, l.getD 2 0, l.getD 3 0, l.getD 4 0, l.getD 5 0, l.getD 6 0, l.getD 7 0⟩
def rdWr (bs : List UInt8) (s : Rs) : Wr × Rs := let a := tk bs 1 s; let v := rdBs bs 8 a.2; (⟨a.1, v8 v.1⟩, v.2)
def rdWrs (bs : List UInt8) : Nat → Rs → List Wr × Rs
  | 0, s => ([], s)
  | k + 1, s => let a := rdWr bs s; let r := rdWrs bs k a.2; (a.1 :: r.1, r.2)
def rdWs (bs : List UInt8) (s : Rs) : List Wr × Rs := let a := tk bs 1 s; rdWrs bs (min a.1 8).toNat a.2
def rdBody (bs : List UInt8) (kind : Int) (s : Rs) : Rc × List Wr × Rs :=
  if kind = 1 then
    let a := rdName bs s; let l := rdWs bs a.2
    ({ Rc.zero with kind := kind, name := a.1 }, l.1, l.2)
  else if kind = 2 then
    let a := rdName bs s; let l := rdWs bs a.2; let g := tk bs 1 l.2; let t := tk bs 1 g.2
    ({ Rc.zero with kind := kind, name := a.1, give := g.1, take := t.1 }, l.1, t.2)
  else if kind = 3 then
    let a := rdName bs s; let y := tk bs 1 a.2
    ({ Rc.zero with kind := kind, name := a.1, yes := y.1 == 1 }, [], y.2)
  else if kind = 4 then
    let a := rdName bs s; let x := tk bs 1 a.2; let y := tk bs 1 x.2; let z := tk bs 1 y.2
    ({ Rc.zero with kind := kind, name := a.1, shards := x.1, cs := y.1 - 1, ct := z.1 }, [], z.2)
  else if kind = 5 then
    let a := rdName bs s
    ({ Rc.zero with kind := kind, name := a.1 }, [], a.2)
  else
    let a := tk bs 3 s
    ({ Rc.zero with kind := kind, n := a.1 }, [], a.2)

theorem tk1 (pre post : List UInt8) (b : Bool) {n : Int} (h0 : 0 ≤ n) (h : n < 256) : tk (pre ++ (leB n 1 ++ post)) 1 ⟨pre.length, b⟩ = (n, ⟨(pre ++ leB n 1).length, b⟩) := by
  have := tk_at pre (leB n 1) post b
  rw [leB_length, leN_leB1 h0 h] at this
  rw [this, List.length_append, leB_length]
theorem tk3 (pre post : List UInt8) (b : Bool) {n : Int} (h0 : 0 ≤ n) (h : n < 16777216) : tk (pre ++ (leB n 3 ++ post)) 3 ⟨pre.length, b⟩ = (n, ⟨(pre ++ leB n 3).length, b⟩) := by
  have := tk_at pre (leB n 3) post b
  rw [leB_length, leN_leB3 h0 h] at this
  rw [this, List.length_append, leB_length]
theorem rdName_at (pre post : List UInt8) (b : Bool) {n : Nm} (h : n.named = true) : rdName (pre ++ (nmB n ++ post)) ⟨pre.length, b⟩ = (n, ⟨(pre ++ nmB n).length, b⟩) := by
  obtain ⟨h1, h2, h3⟩ := named_iff.1 h
  have e : pre ++ (nmB n ++ post) = pre ++ (leB n.stamp 3 ++ (leB n.inc 3 ++ (leB n.try_ 3 ++ post))) := by simp [nmB]
  have e1 := tk3 pre (leB n.inc 3 ++ (leB n.try_ 3 ++ post)) b (n := n.stamp) (by omega) (by omega)
  have e2 := tk3 (pre ++ leB n.stamp 3) (leB n.try_ 3 ++ post) b (n := n.inc) (by omega) (by omega)
  have e3 := tk3 (pre ++ leB n.stamp 3 ++ leB n.inc 3) post b (n := n.try_) (by omega) (by omega)
  simp only [List.append_assoc] at e2 e3
  unfold rdName
  simp only [e, e1, e2, e3]
  simp [nmB]
theorem leN_one (x : UInt8) : leN [x] = x.toNat := by simp [leN]
theorem byteOf_of (x : UInt8) : byteOf (x.toNat : Int) = x := by
  have := UInt8.toNat_lt x
  apply UInt8.toNat_inj.1
  have := byteOf_toNat (x.toNat : Int)
  omega
theorem rdBs_at : ∀ (mid pre post : List UInt8) (b : Bool), rdBs (pre ++ (mid ++ post)) mid.length ⟨pre.length, b⟩ = (mid, ⟨(pre ++ mid).length, b⟩)
  | [], pre, post, b => by simp [rdBs]
  | x :: mid, pre, post, b => by
    have e1 := tk_at pre [x] (mid ++ post) b
    have e2 := rdBs_at mid (pre ++ [x]) post b
    simp only [List.append_assoc, List.cons_append, List.nil_append, List.length_cons, List.length_nil, Nat.zero_add] at e1 e2
    simp only [List.cons_append, List.length_cons, rdBs, e1, leN_one, byteOf_of]
    have e3 : pre.length + 1 = (pre ++ [x]).length := by simp
    rw [e3, e2]
theorem v8_bs (v : V8) : v8 v.bs = v := by cases v; rfl
theorem rdWr_at (pre post : List UInt8) (b : Bool) {x : Wr} (h0 : 0 ≤ x.block) (h : x.block < 256) : rdWr (pre ++ (wrB x ++ post)) ⟨pre.length, b⟩ = (x, ⟨(pre ++ wrB x).length, b⟩) := by
  have e1 := tk1 pre (x.val.bs ++ post) b h0 h
  have e2 := rdBs_at x.val.bs (pre ++ leB x.block 1) post b
  simp only [List.append_assoc] at e2
  unfold rdWr wrB
  simp only [List.append_assoc, e1]
  rw [show (8 : Nat) = x.val.bs.length from rfl, e2]
  simp [v8_bs]
theorem rdWrs_at : ∀ (ws : List Wr) (pre post : List UInt8) (b : Bool), (∀ x ∈ ws, 0 ≤ x.block ∧ x.block < 256) → rdWrs (pre ++ (wrsB ws ++ post)) ws.length ⟨pre.length, b⟩ = (ws, ⟨(pre ++ wrsB ws).length, b⟩)
  | [], pre, post, b, _ => by simp [rdWrs, wrsB]
  | x :: ws, pre, post, b, h => by
    have hx := h x (List.mem_cons_self ..)
    have e1 := rdWr_at pre (wrsB ws ++ post) b hx.1 hx.2
    have e2 := rdWrs_at ws (pre ++ wrB x) post b (fun y hy => h y (List.mem_cons_of_mem _ hy))
    have ew : wrsB (x :: ws) = wrB x ++ wrsB ws := by simp [wrsB]
    simp only [List.append_assoc] at e2
    rw [ew]
    simp only [List.append_assoc, List.length_cons, rdWrs, e1, e2]
theorem rdWs_at (pre post : List UInt8) (b : Bool) {ws : List Wr} (h : writtenB ws = true) : rdWs (pre ++ (wsB ws ++ post)) ⟨pre.length, b⟩ = (ws, ⟨(pre ++ wsB ws).length, b⟩) := by
  simp only [writtenB, Bool.and_eq_true, decide_eq_true_eq] at h
  have e1 := tk1 pre (wrsB ws ++ post) b (n := (ws.length : Int)) (by omega) (by omega)
  have e2 := rdWrs_at ws (pre ++ leB ws.length 1) post b (fun x hx => by have := rising_mem h.2 x hx; omega)
  simp only [List.append_assoc] at e2
  unfold rdWs wsB
  simp only [List.append_assoc, e1]
  rw [show (min (ws.length : Int) 8).toNat = ws.length by omega, e2]

theorem rdBody_enc {r : Rc} {x : List Wr} (h : r.may x = true) (rest : List UInt8) : rdBody (r.enc x ++ rest) r.kind ⟨1, false⟩ = (r, x, ⟨(r.enc x).length, false⟩) := by
  have hl1 : (leB r.kind 1).length = 1 := leB_length _ _
  rcases may_cases h with ⟨hk, hr, hn, hw⟩ | ⟨hk, hr, hn, hw, hg, ht, -⟩ | ⟨hk, hr, rfl, hn⟩ | ⟨hk, hr, rfl, hn, hs, hc⟩ | ⟨hk, hr, rfl, hn⟩ | ⟨hk, hr, rfl, hn⟩ | ⟨hk, hr, rfl, hn⟩
  · have e1 := rdName_at (leB r.kind 1) (wsB x ++ rest) false hn
    have e2 := rdWs_at (leB r.kind 1 ++ nmB r.name) rest false hw
    rw [hl1] at e1
    simp only [List.append_assoc] at e2
    unfold rdBody Rc.enc Rc.body
    simp only [hk, List.append_assoc, reduceIte] at e1 e2 ⊢
    simp only [e1, e2]
    rw [← hr]
  · simp only [bitsB, decide_eq_true_eq] at hg ht
    have e1 := rdName_at (leB r.kind 1) (wsB x ++ (leB r.give 1 ++ (leB r.take 1 ++ rest))) false hn
    have e2 := rdWs_at (leB r.kind 1 ++ nmB r.name) (leB r.give 1 ++ (leB r.take 1 ++ rest)) false hw
    have e3 := tk1 (leB r.kind 1 ++ nmB r.name ++ wsB x) (leB r.take 1 ++ rest) false (n := r.give) (by omega) (by omega)
    have e4 := tk1 (leB r.kind 1 ++ nmB r.name ++ wsB x ++ leB r.give 1) rest false (n := r.take) (by omega) (by omega)
    rw [hl1] at e1
    simp only [List.append_assoc] at e2 e3 e4
    unfold rdBody Rc.enc Rc.body
    simp only [hk, List.append_assoc, reduceIte, show ¬ (2 : Int) = 1 by omega] at e1 e2 e3 e4 ⊢
    simp only [e1, e2, e3, e4]
    rw [← hr]
  · have e1 := rdName_at (leB r.kind 1) (leB (if r.yes then 1 else 0) 1 ++ rest) false hn
    have e2 := tk1 (leB r.kind 1 ++ nmB r.name) rest false (n := if r.yes then 1 else 0) (by split <;> omega) (by split <;> omega)
    rw [hl1] at e1
    simp only [List.append_assoc] at e2
    unfold rdBody Rc.enc Rc.body
    simp only [hk, List.append_assoc, reduceIte, show ¬ (3 : Int) = 1 by omega, show ¬ (3 : Int) = 2 by omega] at e1 e2 ⊢
    simp only [e1, e2]
    have ey : ((if r.yes then (1 : Int) else 0) == 1) = r.yes := by cases r.yes <;> rfl
    rw [ey, ← hr]
  · simp only [shardsB, changedB, decide_eq_true_eq] at hs hc
    have e1 := rdName_at (leB r.kind 1) (leB r.shards 1 ++ (leB (r.cs + 1) 1 ++ (leB r.ct 1 ++ rest))) false hn
    have e2 := tk1 (leB r.kind 1 ++ nmB r.name) (leB (r.cs + 1) 1 ++ (leB r.ct 1 ++ rest)) false (n := r.shards) (by omega) (by omega)
    have e3 := tk1 (leB r.kind 1 ++ nmB r.name ++ leB r.shards 1) (leB r.ct 1 ++ rest) false (n := r.cs + 1) (by omega) (by omega)
    have e4 := tk1 (leB r.kind 1 ++ nmB r.name ++ leB r.shards 1 ++ leB (r.cs + 1) 1) rest false (n := r.ct) (by omega) (by omega)
    rw [hl1] at e1
    simp only [List.append_assoc] at e2 e3 e4
    unfold rdBody Rc.enc Rc.body
    simp only [hk, List.append_assoc, reduceIte, show ¬ (4 : Int) = 1 by omega, show ¬ (4 : Int) = 2 by omega, show ¬ (4 : Int) = 3 by omega] at e1 e2 e3 e4 ⊢
    simp only [e1, e2, e3, e4]
    have ec : r.cs + 1 - 1 = r.cs := by omega
    rw [ec, ← hr]
  · have e1 := rdName_at (leB r.kind 1) rest false hn
    rw [hl1] at e1
    unfold rdBody Rc.enc Rc.body
    simp only [hk, List.append_assoc, reduceIte, show ¬ (5 : Int) = 1 by omega, show ¬ (5 : Int) = 2 by omega, show ¬ (5 : Int) = 3 by omega, show ¬ (5 : Int) = 4 by omega] at e1 ⊢
    simp only [e1]
    rw [← hr]
  · simp only [withinB, decide_eq_true_eq] at hn
    have e1 := tk3 (leB r.kind 1) rest false (n := r.n) (by omega) (by omega)
    rw [hl1] at e1
    unfold rdBody Rc.enc Rc.body
    simp only [hk, List.append_assoc, reduceIte, show ¬ (6 : Int) = 1 by omega, show ¬ (6 : Int) = 2 by omega, show ¬ (6 : Int) = 3 by omega, show ¬ (6 : Int) = 4 by omega, show ¬ (6 : Int) = 5 by omega] at e1 ⊢
    simp only [e1]
    rw [← hr]
  · simp only [withinB, decide_eq_true_eq] at hn
    have e1 := tk3 (leB r.kind 1) rest false (n := r.n) (by omega) (by omega)
    rw [hl1] at e1
    unfold rdBody Rc.enc Rc.body
    simp only [hk, List.append_assoc, reduceIte, show ¬ (7 : Int) = 1 by omega, show ¬ (7 : Int) = 2 by omega, show ¬ (7 : Int) = 3 by omega, show ¬ (7 : Int) = 4 by omega, show ¬ (7 : Int) = 5 by omega] at e1 ⊢
    simp only [e1]
    rw [← hr]

theorem enc_head (r : Rc) (x : List Wr) : r.enc x = byteOf r.kind :: r.body x := by unfold Rc.enc; rw [leB1]; rfl
/-- bytes that begin one another are alike -/
theorem enc_inj {r s : Rc} {x y : List Wr} (hr : r.may x = true) (hs : s.may y = true) {rest : List UInt8} (h : r.enc x = s.enc y ++ rest) : r = s ∧ x = y ∧ rest = [] := by
  have hk : r.kind = s.kind := by
    have k1 := kinds hr; have k2 := kinds hs
    rw [enc_head, enc_head, List.cons_append] at h
    have := (List.cons.inj h).1
    have e1 := byteOf_toNat r.kind; have e2 := byteOf_toNat s.kind
    rw [this] at e1
    omega
  have h1 := rdBody_enc hr []
  have h2 := rdBody_enc hs rest
  rw [List.append_nil, h, hk, h2] at h1
  simp only [Prod.mk.injEq, Rs.mk.injEq, and_true] at h1
  obtain ⟨rfl, rfl, hl⟩ := h1
  rw [List.length_append] at hl
  exact ⟨rfl, rfl, List.eq_nil_of_length_eq_zero (by omega)⟩
theorem enc_len {r : Rc} {x : List Wr} (h : r.may x = true) : 1 ≤ (r.enc x).length ∧ (r.enc x).length ≤ 90 := by
  have hw : ∀ ws : List Wr, (wrsB ws).length = ws.length * 9 := fun ws => by
    induction ws with
    | nil => rfl
    | cons a ws ih => rw [show wrsB (a :: ws) = wrB a ++ wrsB ws by simp [wrsB], List.length_append, ih]; simp [wrB, leB_length, V8.bs]; omega
  have hn : ∀ n : Nm, (nmB n).length = 9 := fun n => by simp [nmB, leB_length]
  have h8 : writtenB x = true → x.length ≤ 8 := fun h => by simp only [writtenB, Bool.and_eq_true, decide_eq_true_eq] at h; exact h.1
  unfold Rc.enc Rc.body
  rcases may_cases h with ⟨hk, -, -, h1⟩ | ⟨hk, -, -, h1, -⟩ | ⟨hk, -⟩ | ⟨hk, -⟩ | ⟨hk, -⟩ | ⟨hk, -⟩ | ⟨hk, -⟩ <;> simp [hk, leB_length, hn, wsB, hw]
  · have := h8 h1; omega
  · have := h8 h1; omega

/-- a reader's cells -/
abbrev rdC (bv : Value) (s : Rs) : Array Value := #[bv, .int .i64 (s.at_ : Int), .bool s.bad]
theorem rdBs_snoc (bs : List UInt8) : ∀ (j : Nat) (s : Rs), rdBs bs (j + 1) s = ((rdBs bs j s).1 ++ [byteOf (tk bs 1 (rdBs bs j s).2).1], (tk bs 1 (rdBs bs j s).2).2)
  | 0, s => rfl
  | j + 1, s => by
    show (byteOf (tk bs 1 s).1 :: (rdBs bs (j + 1) (tk bs 1 s).2).1, (rdBs bs (j + 1) (tk bs 1 s).2).2) = _
    rw [rdBs_snoc bs j (tk bs 1 s).2]; rfl
theorem rdBs_len (bs : List UInt8) : ∀ (j : Nat) (s : Rs), (rdBs bs j s).1.length = j
  | 0, s => rfl
  | j + 1, s => by rw [rdBs_snoc]; simp [rdBs_len bs j]
theorem rdWrs_snoc (bs : List UInt8) : ∀ (j : Nat) (s : Rs), rdWrs bs (j + 1) s = ((rdWrs bs j s).1 ++ [(rdWr bs (rdWrs bs j s).2).1], (rdWr bs (rdWrs bs j s).2).2)
  | 0, s => rfl
  | j + 1, s => by
    show ((rdWr bs s).1 :: (rdWrs bs (j + 1) (rdWr bs s).2).1, (rdWrs bs (j + 1) (rdWr bs s).2).2) = _
    rw [rdWrs_snoc bs j (rdWr bs s).2]; rfl
theorem rdWrs_len (bs : List UInt8) : ∀ (j : Nat) (s : Rs), (rdWrs bs j s).1.length = j
  | 0, s => rfl
  | j + 1, s => by rw [rdWrs_snoc]; simp [rdWrs_len bs j]
/-- eight bytes, those that are there first -/
def padB (l : List UInt8) : List UInt8 := l ++ List.replicate (8 - l.length) 0
theorem padB_set {l : List UInt8} (b : Value) (x : UInt8) (h : l.length < 8) : putL (b :: bcells (padB l)) (1 + l.length) [.int .u8 (x.toNat : Int)] = b :: bcells (padB (l ++ [x])) := by
  have e : padB l = l ++ (0 :: List.replicate (8 - (l.length + 1)) 0) := by unfold padB; rw [show 8 - l.length = (8 - (l.length + 1)) + 1 by omega, List.replicate_succ]
  rw [e]; unfold padB
  simp only [putL, bcells, List.map_append, List.map_cons, List.map_nil, List.length_append, List.length_cons, List.length_nil, Nat.add_comm 1 l.length, List.set_cons_succ]
  rw [List.set_append_right _ _ (by simp)]
  simp
theorem padB_full {l : List UInt8} (h : l.length = 8) : bcells (padB l) = (v8 l).cellsL := by
  match l, h with
  | [a, b, c, d, e, f, g, i], _ => rfl
theorem tk1_bd (bs : List UInt8) (s : Rs) : 0 ≤ (tk bs 1 s).1 ∧ (tk bs 1 s).1 ≤ 255 := by
  unfold tk; split
  · have h1 := leN_lt ((bs.drop s.at_).take 1)
    have h2 : ((bs.drop s.at_).take 1).length ≤ 1 := by simp; omega
    have h3 : 256 ^ ((bs.drop s.at_).take 1).length ≤ 256 ^ 1 := Nat.pow_le_pow_right (by omega) h2
    simp only; omega
  · simp

end Go.Proofs.Ytojgcgaoajfihaa
