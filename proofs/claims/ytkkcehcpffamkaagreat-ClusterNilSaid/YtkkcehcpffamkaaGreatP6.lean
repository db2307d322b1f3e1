/-
  What ClusterNil rests on, part 6.
-/
import Derived.Test.YtkkcehcpffamkaaGreatP5
namespace Go.Proofs.YtkkcehcpffamkaaGreat
open Go.RowKit Go.Sort
variable {P : Program} {a : Act} {w : World} {Q : Exit → Act → World → Prop}
def gotoN (K : Nat → Act → World → Prop) (Q : Exit → Act → World → Prop) : Exit → Act → World → Prop
 | .goto i, a, w => K i a w
 | e, a, w => Q e a w
theorem wp_scope_all {c : Code} (B : Nat) (J : Nat → Nat → Act → World → Prop) (first : c.wp P (gotoN (fun l a w => ∃ m, m < B ∧ J l m a w) Q) a w)
 (pass : ∀ l m a w, J l m a w → ∃ rest, findLabel c l = some rest ∧ rest.wp P (gotoN (fun l' a w => ∃ m', m' < m ∧ J l' m' a w) Q) a w) : (Code.scope c).wp P Q a w := by
 intro b k cs
 have key : ∀ m l a w, J l m a w → ∃ rest, findLabel c l = some rest ∧ ∃ e a' w', Q e a' w' ∧ Arrives P (lone (b.at a (.code rest :: .inScope c :: k)) cs w) b k cs e a' w' := by
  intro m
  induction m using Nat.strongRecOn with
  | _ m ih =>
    intro l a w hJ
    obtain ⟨rest, hf, hp⟩ := pass l m a w hJ
    refine ⟨rest, hf, ?_⟩
    obtain ⟨e, a₁, w₁, hq, harr⟩ := hp b (.inScope c :: k) cs
    cases e with
    | normal => exact ⟨.normal, a₁, w₁, hq, Steps.trans harr (.one step_inScope)⟩
    | exit id => exact ⟨.exit id, a₁, w₁, hq, fun k' hk => harr k' (by simp [exitTo, hk])⟩
    | goto l' =>
      obtain ⟨m', hlt, hJ'⟩ := hq
      obtain ⟨rest2, hf2, e₂, a₂, w₂, hq₂, harr₂⟩ := ih m' hlt l' a₁ w₁ hJ'
      have hg : gotoIn l' (.inScope c :: k) = some (.code rest2 :: .inScope c :: k) := by simp [gotoIn, hf2]
      exact ⟨e₂, a₂, w₂, hq₂, .of_steps (harr _ hg) harr₂⟩
    | ret => exact ⟨_, a₁, w₁, hq, harr⟩
    | panic ch => exact ⟨_, a₁, w₁, hq, harr⟩
    | outgrown => exact ⟨_, a₁, w₁, hq, harr⟩
 obtain ⟨e, a₁, w₁, hq, harr⟩ := first b (.inScope c :: k) cs
 cases e with
 | normal => exact ⟨.normal, a₁, w₁, hq, .head step_scope (Steps.trans harr (.one step_inScope))⟩
 | exit id => exact ⟨.exit id, a₁, w₁, hq, fun k' hk => .head step_scope (harr k' (by simp [exitTo, hk]))⟩
 | goto l' =>
   obtain ⟨m', -, hJ'⟩ := hq
   obtain ⟨rest2, hf2, e₂, a₂, w₂, hq₂, harr₂⟩ := key m' l' a₁ w₁ hJ'
   have hg : gotoIn l' (.inScope c :: k) = some (.code rest2 :: .inScope c :: k) := by simp [gotoIn, hf2]
   exact ⟨e₂, a₂, w₂, hq₂, .of_steps (.head step_scope (harr _ hg)) harr₂⟩
 | ret => exact ⟨_, a₁, w₁, hq, .of_steps (.one step_scope) harr⟩
 | panic ch => exact ⟨_, a₁, w₁, hq, .of_steps (.one step_scope) harr⟩
 | outgrown => exact ⟨_, a₁, w₁, hq, .of_steps (.one step_scope) harr⟩
theorem sg_ret {K : Nat → Act → World → Prop} (h : Q .ret a w) : gotoN K Q .ret a w := h
theorem sg_goto {l : Nat} {K : Nat → Act → World → Prop} (h : K l a w) : gotoN K Q (.goto l) a w := h
end Go.Proofs.YtkkcehcpffamkaaGreat

namespace Go.Proofs.YtkkcehcpffamkaaGreat
open Go.RowKit Go.Sort
def v8B (x : V8) : List UInt8 := [x.v0, x.v1, x.v2, x.v3, x.v4, x.v5, x.v6, x.v7]
def valB (l : List V8) : List UInt8 := l.flatMap v8B
def homeB (l : List V8) : List UInt8 := sealB (valB l)
abbrev h32 (x0 x1 x2 x3 : V8) : List Value := [.int .u8 (x0.v0.toNat : Int), .int .u8 (x0.v1.toNat : Int), .int .u8 (x0.v2.toNat : Int), .int .u8 (x0.v3.toNat : Int), .int .u8 (x0.v4.toNat : Int), .int .u8 (x0.v5.toNat : Int), .int .u8 (x0.v6.toNat : Int), .int .u8 (x0.v7.toNat : Int), .int .u8 (x1.v0.toNat : Int), .int .u8 (x1.v1.toNat : Int), .int .u8 (x1.v2.toNat : Int), .int .u8 (x1.v3.toNat : Int), .int .u8 (x1.v4.toNat : Int), .int .u8 (x1.v5.toNat : Int), .int .u8 (x1.v6.toNat : Int), .int .u8 (x1.v7.toNat : Int), .int .u8 (x2.v0.toNat : Int), .int .u8 (x2.v1.toNat : Int), .int .u8 (x2.v2.toNat : Int), .int .u8 (x2.v3.toNat : Int), .int .u8 (x2.v4.toNat : Int), .int .u8 (x2.v5.toNat : Int), .int .u8 (x2.v6.toNat : Int), .int .u8 (x2.v7.toNat : Int), .int .u8 (x3.v0.toNat : Int), .int .u8 (x3.v1.toNat : Int), .int .u8 (x3.v2.toNat : Int), .int .u8 (x3.v3.toNat : Int), .int .u8 (x3.v4.toNat : Int), .int .u8 (x3.v5.toNat : Int), .int .u8 (x3.v6.toNat : Int), .int .u8 (x3.v7.toNat : Int)]
end Go.Proofs.YtkkcehcpffamkaaGreat

namespace Go.Proofs.YtkkcehcpffamkaaGreat
open Go.RowKit Go.Sort
def icells (zs : List Int) : List Value := zs.map fun z => .int .i64 z
end Go.Proofs.YtkkcehcpffamkaaGreat

namespace Go.Proofs.YtkkcehcpffamkaaGreat
open Go.RowKit Go.Sort
def Nm.less (a b : Nm) : Bool := decide (a.stamp < b.stamp ∨ (a.stamp = b.stamp ∧ (a.inc < b.inc ∨ (a.inc = b.inc ∧ a.try_ < b.try_))))
def cmpZ (a b : Int) : Int := if a < b then -1 else if b < a then 1 else 0
def orZ : List Int → Int
 | [] => 0
 | z :: r => if z = 0 then orZ r else z
end Go.Proofs.YtkkcehcpffamkaaGreat

namespace Go.Proofs.YtkkcehcpffamkaaGreat
open Go.RowKit Go.Sort
def secsN (r : Rc) (x : List Wr) : Int := if r.may x = true then (((r.enc x).length : Int) + 45 - 1) / 45 else 0
theorem may_shards {r : Rc} {x : List Wr} (h : r.may x = true) : r.shards ≤ 31 := by
 rcases may_cases h with ⟨-, hr, -⟩ | ⟨-, hr, -⟩ | ⟨-, hr, -⟩ | ⟨-, -, -, -, hs, -⟩ | ⟨-, hr, -⟩ | ⟨-, hr, -⟩ | ⟨-, hr, -⟩
 all_goals first
  | (simp only [shardsB, decide_eq_true_eq] at hs; omega)
  | (rw [hr]; simp [Rc.zero])
theorem ReadRP.form {bs : List UInt8} {w w' : World} {e : Ending} (h : ReadRP bs w e w') :
 ∃ (r : Rc) (x : List Wr) (ad : Option Addr) (cp : Nat) (c : Int), e = .returned (.tuple #[.agg (r.cells (.slice ad x.length cp)), .int .i64 c]) ∧ Fresh w w' 202 9 (.slice ad x.length cp) x.length (wcells x) ∧ x.length ≤ 8 ∧ r.shards ≤ 31 ∧
 ((c = 0 ∧ r.may x = true ∧ r.enc x = bs) ∨ (c = 40 ∧ r = Rc.zero ∧ x = [] ∧ ∀ (r : Rc) (x : List Wr), r.may x = true → r.enc x ≠ bs)) := by
 obtain ⟨r, x, v, c, rfl, hF, h⟩ := h
 have h8 : x.length ≤ 8 := by
  rcases h with ⟨-, hm, -⟩ | ⟨-, -, rfl, -⟩
  ·rcases may_cases hm with ⟨-, -, -, h1⟩ | ⟨-, -, -, h1, -⟩ | ⟨-, -, rfl, -⟩ | ⟨-, -, rfl, -⟩ | ⟨-, -, rfl, -⟩ | ⟨-, -, rfl, -⟩ | ⟨-, -, rfl, -⟩
   all_goals first
    | (simp only [writtenB, Bool.and_eq_true, decide_eq_true_eq] at h1; exact h1.1)
    | simp
  ·simp
 have hs : r.shards ≤ 31 := by
  rcases h with ⟨-, hm, -⟩ | ⟨-, rfl, -⟩
  ·exact may_shards hm
  ·simp [Rc.zero]
 obtain ⟨ad, cp, rfl, -, -⟩ := (hF.rd (by unfold maxLen; omega)).form
 refine ⟨r, x, ad, cp, c, rfl, hF, h8, hs, ?_⟩
 rcases h with h | ⟨h1, h2, h3, -, h5⟩
 ·exact .inl h
 ·exact .inr ⟨h1, h2, h3, h5⟩
def rWake : Rc := ⟨3, ⟨1, 1, 1⟩, true, 0, 0, 0, 0, 0, 0⟩
end Go.Proofs.YtkkcehcpffamkaaGreat

namespace Go.Proofs.YtkkcehcpffamkaaGreat
open Go.RowKit Go.Sort
section
variable {ds : List Deferred} {P : Program} {n : Nat} {a : Act} {L : List (Nat × Value)} {w : World}
theorem y_sliceA2 {x lo hi : Operand} {b o t m sz : Nat} {i j : Int} {k1 k2 : IntKind} (S : SeesD ds n a L) (hE : arrayElem P t = some (m, sz)) (hx : val L x = some (.pointer (some ⟨b, o, none⟩))) (h1 : val L lo = some (.int k1 i)) (h2 : val L hi = some (.int k2 j)) (h : 0 ≤ i ∧ i ≤ j ∧ j ≤ m ∧ i < m)
 {d : Option Tmp} {ty : TypeId} {p : String} {ed : Array Edge} {g : Option (Nat × Bool)} : Yields P a ⟨d, .slice t x (some lo) (some hi) none, ty, p, ed, g⟩ w (.slice (some ⟨b, o + i.toNat * sz, none⟩) (j.toNat - i.toNat) (m - i.toNat)) := by
 obtain ⟨e, hu, inf, hinf, rfl⟩ := arrayElem_spec hE
 unfold Yields execOp
 simp only [Option.map_none, Option.map_some, S.eval hx, S.eval h1, S.eval h2]
 have e0 : (⟨b, o, none⟩ : Addr).add (i.toNat * inf.size) = ⟨b, o + i.toNat * inf.size, none⟩ := by simp [Addr.add]
 have hne : ¬ m = i.toNat := by omega
 simp [Instr.sliceAt, Instr.sliceBounds, Instr.sliceBound, asIntOf, underlying, hu, Instr.sureAddr, sizeOf, typeInfo, hinf, h, hne, e0, go_sem]
 rw [if_pos (show 0 ≤ j by omega), if_pos (show i ≤ max j 0 by omega)]
end
def stSu (s : Su) (a b : Int) : St := ⟨[.int .i64 s.gen, .int .i64 s.tail], s.owned, [.int .i64 s.inc, .int .i64 s.bound, .int .i64 s.m0, .int .i64 s.m1, .int .i64 s.m2, .int .i64 s.m3, .int .i64 s.m4, .int .i64 s.m5, .int .i64 s.m6, .int .i64 s.m7, .int .i64 a, .int .i64 b], List.replicate 32 zV8, 0⟩
theorem stSu_ok (s : Su) (a b : Int) : (stSu s a b).ok := ⟨rfl, rfl, rfl, rfl, rfl⟩
theorem stSu_fill (s : Su) : putL (zSt.cellsL (.slice none 0 0)) 0 s.cellsL = (stSu s 0 0).cellsL (.slice none 0 0) := by kernel_rfl
theorem stSu_log (s : Su) (a b : Int) (dv : Value) : (((stSu s 0 0).cellsL dv).set 13 (.int .i64 a)).set 14 (.int .i64 b) = (stSu s a b).cellsL dv := rfl
theorem zero_mid {P Q : List Value} {k : Nat} (h : k < 8) (hp : P.length = 15) : (P ++ (hcells (List.replicate 32 zV8) ++ Q)).take (15 + k * 32) ++ zVs ++ (P ++ (hcells (List.replicate 32 zV8) ++ Q)).drop (15 + k * 32 + zVs.length) = P ++ (hcells (List.replicate 32 zV8) ++ Q) := by
 have hz : hcells (List.replicate 32 zV8) = List.replicate 256 (.int .u8 0) := by kernel_rfl
 have hv : zVs = List.replicate 32 (.int .u8 0) := by kernel_rfl
 rw [hz, hv, List.length_replicate]
 rw [List.take_append, List.drop_append, hp, List.take_of_length_le (by omega), List.drop_of_length_le (by omega)]
 rw [show 15 + k * 32 - 15 = k * 32 by omega, show 15 + k * 32 + 32 - 15 = k * 32 + 32 by omega]
 rw [List.take_append_of_le_length (by rw [List.length_replicate]; omega), List.drop_append_of_le_length (by rw [List.length_replicate]; omega), List.take_replicate, List.drop_replicate]
 rw [List.nil_append, List.append_assoc, List.append_assoc, ← List.append_assoc (List.replicate 32 _), ← List.append_assoc (List.replicate _ _) (_ ++ _), ← List.append_assoc (List.replicate _ _) (List.replicate 32 _), List.replicate_append_replicate, List.replicate_append_replicate]
 congr 3
 omega
theorem stSu_zero (s : Su) (a b : Int) (dv : Value) {k : Nat} (h : k < 8) : ((stSu s a b).cellsL dv).take (15 + k * 32) ++ zVs ++ ((stSu s a b).cellsL dv).drop (15 + k * 32 + zVs.length) = (stSu s a b).cellsL dv :=
 zero_mid (P := (stSu s a b).pre) h rfl
def foldS : St → Pl → Rl → St × Pl
 | s, ps, [] => (s, ps)
 | s, ps, q :: l => foldS (appSt s ps q.1 q.2) (stepO ps q.1 q.2).1 l
theorem foldS_snoc : ∀ (l : Rl) (s : St) (ps : Pl) (q : Rc × List Wr), foldS s ps (l ++ [q]) = (appSt (foldS s ps l).1 (foldS s ps l).2 q.1 q.2, (stepO (foldS s ps l).2 q.1 q.2).1)
 | [], _, _, _ => rfl
 | p :: l, s, ps, q => foldS_snoc l _ _ q
structure Recs (l : Rl) (bs : List (List UInt8)) : Prop where
 len : l.length = bs.length
 get : ∀ (i : Nat) (q : Rc × List Wr) (b : List UInt8), l[i]? = some q → bs[i]? = some b → q.1.enc q.2 = b ∧ takes q.1 q.2 = true
theorem Recs.nil : Recs [] [] := ⟨rfl, fun i q b h _ => by simp at h⟩
theorem gsR_tail {sec : Nat → List UInt8} {x : Su} (h : gsR sec = (x, 0)) : 1 ≤ x.tail ∧ x.tail ≤ 1099511627776 := by
 unfold gsR at h
 cases hb : bestN sec 2 with
 | some y =>
   rw [hb] at h
   obtain rfl : y = x := congrArg Prod.fst h
   have := bestN_may hb
   exact ⟨this.2.2.2.1, this.2.2.2.2.1⟩
 | none =>
   rw [hb] at h
   simp only at h
   split at h
   ·obtain rfl : suFirst = x := congrArg Prod.fst h
    decide
   ·have := congrArg Prod.snd h; simp at this
def OpenR (wc : World) (A E : List Ent) (S0 : DS) (e : Ending) (w' : World) : Prop :=
 ∃ (s : St) (ps : Pl) (da : Option Addr) (dc lo hi : Nat) (cs : List Value) (es : List Ent) (er : Int), e = .returned (.tuple #[.agg (s.cellsL (.slice da ps.length dc)).toArray, .int .i64 er]) ∧
  Mem wc w' (rowE lo hi 199 6 (.slice da ps.length dc) ps.length cs :: (es ++ (A ++ E))) ∧ PrBk cs ps es ∧ s.ok ∧ ps.length ≤ 24 ∧
  (er = 0 → ∃ (x : Su) (l : Rl), gsR (secD S0) = (x, 0) ∧ Recs l ((scanG S0 x.tail).l.map (·.2)) ∧ foldS (stSu x x.tail (scanG S0 x.tail).next) [] l = (s, ps))
theorem perm_r1 {R X Z U : Ent} {es F : List Ent} : (R :: (es ++ (X :: U :: Z :: F))).Perm (X :: U :: Z :: R :: (es ++ F)) := by
 have h1 : (es ++ (X :: U :: Z :: F)).Perm (X :: U :: Z :: (es ++ F)) := (List.perm_middle).trans (List.Perm.cons _ ((List.perm_middle).trans (List.Perm.cons _ List.perm_middle)))
 refine (List.Perm.cons _ h1).trans ?_
 refine (List.Perm.swap _ _ _).trans (List.Perm.cons _ ?_)
 refine (List.Perm.swap _ _ _).trans (List.Perm.cons _ ?_)
 exact List.Perm.swap _ _ _
theorem perm_r5 {D2 Y W X Z D : Ent} {es G : List Ent} : (D2 :: (es ++ (Y :: W :: X :: Z :: D :: G))).Perm (Y :: W :: X :: Z :: D :: D2 :: (es ++ G)) := by
 have h1 : (es ++ (Y :: W :: X :: Z :: D :: G)).Perm (Y :: W :: X :: Z :: D :: (es ++ G)) := (List.perm_middle).trans (List.Perm.cons _ ((List.perm_middle).trans (List.Perm.cons _ ((List.perm_middle).trans (List.Perm.cons _ ((List.perm_middle).trans (List.Perm.cons _ List.perm_middle)))))))
 refine (List.Perm.cons _ h1).trans ?_
 exact (List.perm_middle (l₁ := [Y, W, X, Z, D])).symm
end Go.Proofs.YtkkcehcpffamkaaGreat

namespace Go.Proofs.YtkkcehcpffamkaaGreat
open Go.RowKit Go.Sort
end Go.Proofs.YtkkcehcpffamkaaGreat

namespace Go.Proofs.YtkkcehcpffamkaaGreat
open Go.RowKit Go.Sort
def prRc (p : Pr) : Rc := ⟨2, p.name, false, p.give, p.take, 0, 0, 0, 0⟩
def stG (x : Su) (o a b : Int) (h : List V8) (n : Int) : St := ⟨[.int .i64 x.gen, .int .i64 x.tail], o, [.int .i64 x.inc, .int .i64 x.bound, .int .i64 x.m0, .int .i64 x.m1, .int .i64 x.m2, .int .i64 x.m3, .int .i64 x.m4, .int .i64 x.m5, .int .i64 x.m6, .int .i64 x.m7, .int .i64 a, .int .i64 b], h, n⟩
theorem stG_ok (x : Su) (o a b : Int) {h : List V8} (n : Int) (hh : h.length = 32) : (stG x o a b h n).ok := ⟨rfl, rfl, hh, rfl, rfl⟩
end Go.Proofs.YtkkcehcpffamkaaGreat

namespace Go.Proofs.YtkkcehcpffamkaaGreat
open Go.RowKit Go.Sort
variable {ds : List Deferred}
variable {P : Program} {ops : Array Oper} {Q : Exit → Act → World → Prop} {rest : List Oper} {n d : Nat} {a : Act} {L : List (Nat × Value)} {w w0 : World} {H : List Ent}
end Go.Proofs.YtkkcehcpffamkaaGreat

namespace Go.Proofs.YtkkcehcpffamkaaGreat
open Go.RowKit Go.Sort
def BRows (W : World) (v : Value) (bss : List (List UInt8)) : Prop := ∃ vs, Rd 0 W.heap.size W 1 v bss.length vs ∧ ∀ (i : Nat) x bs, vs[i]? = some x → bss[i]? = some bs → Bs 0 W.heap.size W x bs
end Go.Proofs.YtkkcehcpffamkaaGreat

namespace Go.Proofs.YtkkcehcpffamkaaGreat
open Go.RowKit Go.Sort
def wantsP (n : Int) : Int := if n < 1 ∨ 90 < n then 0 else (n + 44) / 45
theorem wants_any (n : Int) (w : World) : Calls Tryz.prog 266 #[.int .i64 n] w fun e w' => e = .returned (.int .i64 (wantsP n)) ∧ Below w.heap.size w w' := by
 have M := Mem.start w
 refine calls_enter Tryz.func266 rfl 13 rfl rfl ?_; intro a S
 refine nxD (qG [1] S ?_); intro a S
 refine nxC (wp_seq (nxD (qG [1, 1, 1] S ?_))); intro a S
 refine st_if (t := 5) S rfl ?_ ?_
 ·intro h5 S
  refine qG [0, 0, 1] S ?_; intro a S
  refine nxC (st_condT S rfl (nxD (qG [1] S ?_))); intro a S
  refine nxC (wp_ret (then_ret (end_one S rfl (res_tmp rfl) ?_)))
  exact ⟨by unfold wantsP; rw [if_pos (by omega)], M.below⟩
 intro h5 S
 refine qG [1, 1, 1] S ?_; intro a S
 refine nxC (st_if (t := 8) S rfl ?_ ?_)
 ·intro h8 S
  refine st_condT S rfl (nxD (qG [1] S ?_)); intro a S
  refine nxC (wp_ret (then_ret (end_one S rfl (res_tmp rfl) ?_)))
  exact ⟨by unfold wantsP; rw [if_pos (by omega)], M.below⟩
 intro h8 S
 refine st_condF S rfl (wp_skip (nxE (qG [1] S ?_))); intro a S
 (first | refine qY S (y_addN S rfl rfl (by omega)) ?_ | refine qY S (y_int S rfl rfl rfl) ?_); intro a S
 (first | refine qY S (y_subN S rfl rfl (by omega)) ?_ | refine qY S (y_int S rfl rfl rfl) ?_); intro a S
 refine qY S (y_quoN S rfl rfl (by omega)) ?_; intro a S
 refine qG [1] S ?_; intro a S
 refine nxC (wp_ret (end_one S rfl (res_tmp rfl) ?_))
 exact ⟨by unfold wantsP; rw [if_neg (by omega), show n + 45 - 1 = n + 44 by omega], M.below⟩
theorem jflush_any {wc w : World} {A E : List Ent} {b : Nat} {S0 : DS} (hE : DkE b S0 E) (M : Mem wc w (A ++ E)) (hup : S0.down = false) (hw : ∀ k, (S0.cache k).length ≤ 1000000) :
 Calls Tryz.prog 272 #[.pointer (some ⟨b, 0, none⟩)] w fun e w' => e = .returned (.int .i64 0) ∧ ∃ E', DkE b S0.flush E' ∧ Mem wc w' (A ++ E') := by
 refine calls_enter Tryz.func272 rfl 5 rfl rfl ?_; intro a S
 refine nxD (qG [1] S ?_); intro a S
 refine nxA (qG [1] S ?_); intro a S
 refine qC (xs := [.tmp 3]) S (qE Tryz.func91) rfl (flush_any hE M hup hw) ?_
 rintro _ w1 ⟨rfl, E', hE', M2⟩; refine ⟨_, rfl, ?_⟩; intro a S; have M := M2; clear M2
 refine qG [1] S ?_; intro a S
 refine nxC (wp_ret (end_one S rfl (res_tmp rfl) ?_))
 exact ⟨rfl, E', hE', M⟩
end Go.Proofs.YtkkcehcpffamkaaGreat

namespace Go.Proofs.YtkkcehcpffamkaaGreat
open Go.RowKit Go.Sort
def encQ (q : Pr × List Wr) : List UInt8 := (prRc q.1).enc q.2
def mayQ (q : Pr × List Wr) : Prop := (prRc q.1).may q.2 = true
def secQ (q : Pr × List Wr) : Nat := nOf (encQ q).length
def wtP (ps : Pl) : Nat := (ps.map secQ).sum
def sv1 (h : List V8) (ps : Pl) (x : Su) (j : Nat) (p : DS × Int) : DS × Int :=
 if j < 8 then (p.1.write (26 + (j : Int)) (pad64 (homeB ((h.drop (j * 4)).take 4))), p.2)
 else if j = 8 then (p.1.flush, p.2)
 else match ps[j - 9]? with
  | some q => (putF p.1 (cutF (encQ q) p.2 x.inc), p.2 + (secQ q : Nat))
  | none => if j = 10 + ps.length then (p.1.write (x.gen % 2) (supS x), p.2) else (p.1.flush, p.2)
def sv (h : List V8) (ps : Pl) (x : Su) : Nat → DS × Int → DS × Int
 | 0, p => p
 | j + 1, p => sv1 h ps x j (sv h ps x j p)
def stX (x : Su) (a b : Int) (h : List V8) (n : Int) : St := stG x x.owned a b h n
theorem stX_ok (x : Su) (a b : Int) {h : List V8} (n : Int) (hh : h.length = 32) : (stX x a b h n).ok := stG_ok x x.owned a b n hh
abbrev stB (b : Nat) (x : Su) (a n : Int) (h : List V8) (k : Int) (dv : Value) : Ent := .blk b ((stX x a n h k).cellsL dv).toArray 62
end Go.Proofs.YtkkcehcpffamkaaGreat

namespace Go.Proofs.YtkkcehcpffamkaaGreat
open Go.RowKit Go.Sort
end Go.Proofs.YtkkcehcpffamkaaGreat

namespace Go.Proofs.YtkkcehcpffamkaaGreat
open Go.RowKit Go.Sort
abbrev pB (b : Nat) : Value := .pointer (some ⟨b, 0, none⟩)
def stepV (b2 b3 : Nat) (ps : Pl) (cs : List Value) (F : List Ent) (j : Nat) (v : Value) : Prop :=
 if j < 8 then ∃ bj, v = .func (.func 475) #[] #[pB bj, pB b2, pB b3] ∧ Ent.blk bj #[.int .i64 (j : Int)] 3 ∈ F
 else if j = 8 then v = .func (.func 474) #[] #[pB b2]
 else match ps[j - 9]? with
  | some _ => ∃ bj, v = .func (.func 477) #[] #[pB bj, pB b2, pB b3] ∧ Ent.blk bj ((cs.drop ((j - 9) * 6)).take 6).toArray 199 ∈ F
  | none => if j = 10 + ps.length then v = .func (.func 478) #[] #[pB b2, pB b3] else v = .func (.func 474) #[] #[pB b2]
structure StepsBk (b2 b3 : Nat) (ps : Pl) (cs : List Value) (F : List Ent) (n : Nat) (fc : List Value) : Prop where
 len : fc.length = n
 get : ∀ (j : Nat) (v : Value), fc[j]? = some v → stepV b2 b3 ps cs F j v
end Go.Proofs.YtkkcehcpffamkaaGreat

namespace Go.Proofs.YtkkcehcpffamkaaGreat
open Go.RowKit Go.Sort
structure StepOk (S0 : DS) (x : Su) (a9 n : Int) (h : List V8) (ps : Pl) (j : Nat) : Prop where
 up : S0.down = false
 cache : ∀ k, (S0.cache k).length ≤ 100000
 hl : h.length = 32
 may : x.may
 lg : mayL a9 n
 big : n ≤ 2147483648
 mq : ∀ q ∈ ps, mayQ q
 room : ∀ (i : Nat) (q : Pr × List Wr), j = 9 + i → ps[i]? = some q → n + (secQ q : Nat) ≤ a9 + 24
end Go.Proofs.YtkkcehcpffamkaaGreat

namespace Go.Proofs.YtkkcehcpffamkaaGreat
open Go.RowKit Go.Sort
def ckSu (x : Su) (n : Int) : Su := { x with gen := x.gen + 1, tail := n }
end Go.Proofs.YtkkcehcpffamkaaGreat

namespace Go.Proofs.YtkkcehcpffamkaaGreat
open Go.RowKit Go.Sort
structure Sh where
 x : Su
 a : Int
 n : Int
 h : List V8
 k : Int
 ps : Pl
abbrev Sh.st (s : Sh) : St := stX s.x s.a s.n s.h s.k
def shC (bd : Nat) (s : Sh) (dv : Value) : List Value := [pB bd] ++ (s.st.cellsL dv ++ [])
abbrev shE (b bd : Nat) (s : Sh) (dv : Value) : Ent := .blk b (shC bd s dv).toArray 151
def ShM (wc w : World) (A : List Ent) (b bd : Nat) (s : Sh) (S : DS) : Prop := ∃ (da : Option Addr) (dc lo hi : Nat) (cs : List Value) (es E : List Ent), DkE bd S E ∧ PrBk cs s.ps es ∧
 Mem wc w (shE b bd s (.slice da s.ps.length dc) :: rowE lo hi 199 6 (.slice da s.ps.length dc) s.ps.length cs :: (es ++ (A ++ E)))
def Sh.keep (s : Sh) (r : Rc) (x : List Wr) : Sh := ⟨{ s.x with owned := ownP s.x.owned s.ps r }, s.a, s.n + (nOf (r.enc x).length : Nat), onF s.h (stepO s.ps r x).2, IntKind.i64.wrap (s.k + 1), (stepO s.ps r x).1⟩
def Sh.keepD (s : Sh) (S : DS) (r : Rc) (x : List Wr) (fl : Bool) : DS := if fl = true then (putF S (cutF (r.enc x) s.n s.x.inc)).flush else putF S (cutF (r.enc x) s.n s.x.inc)
def Sh.save (s : Sh) : Sh := ⟨ckSu s.x s.n, s.n, s.n + (wtP s.ps : Nat), s.h, 0, s.ps⟩
def Sh.saveD (s : Sh) (S : DS) : DS := (sv s.h s.ps (ckSu s.x s.n) (12 + s.ps.length) (S, s.n)).1
structure ShI (S : DS) (s : Sh) (N : Int) : Prop where
 up : S.down = false
 cache : ∀ k, ((S.cache k).length : Int) ≤ 5 * N
 hl : s.h.length = 32
 mq : ∀ q ∈ s.ps, mayQ q
 may : s.x.may
 lg : mayL s.a s.n
 nx : s.n ≤ 20 * N
 gen : s.x.gen ≤ N
 few : N ≤ 1000
 w8 : wtP s.ps + s.ps.length ≤ 8
 room : s.n + ((wtP s.ps + s.ps.length : Nat) : Int) ≤ s.a + 24
theorem shC_len {bd : Nat} {s : Sh} {dv : Value} (hl : s.h.length = 32) : (shC bd s dv).length = 274 := by
 unfold shC; rw [List.length_append, List.length_append, St.len (stX_ok _ _ _ _ hl)]; rfl
theorem shC_inc (bd : Nat) (s : Sh) (dv : Value) : (shC bd s dv).toArray[4]? = some (.int .i64 s.x.inc) := rfl
theorem shC_d (bd : Nat) (s : Sh) (dv : Value) : (shC bd s dv).toArray[0]? = some (pB bd) := rfl
theorem shC_doubt {bd : Nat} {s : Sh} {dv : Value} (hl : s.h.length = 32) : (shC bd s dv).toArray[272]? = some dv := by
 have h := St.doubt (stX_ok s.x s.a s.n s.k hl) dv
 rw [List.getElem?_toArray] at h ⊢
 unfold shC
 rw [List.getElem?_append_right (by show 1 ≤ 272; omega)]
 show ((s.st.cellsL dv ++ []))[271]? = _
 rw [List.append_nil]; exact h
end Go.Proofs.YtkkcehcpffamkaaGreat

namespace Go.Proofs.YtkkcehcpffamkaaGreat
open Go.RowKit Go.Sort
def Sh.app (s : Sh) (r : Rc) (x : List Wr) : Sh := ⟨{ s.x with owned := ownP s.x.owned s.ps r }, s.a, s.n, onF s.h (stepO s.ps r x).2, IntKind.i64.wrap (s.k + 1), (stepO s.ps r x).1⟩
end Go.Proofs.YtkkcehcpffamkaaGreat

namespace Go.Proofs.YtkkcehcpffamkaaGreat
open Go.RowKit Go.Sort
theorem perm_close {α : Type} {P es A E : List α} {X D : α} : (P ++ (X :: D :: (es ++ (A ++ E)))).Perm (X :: D :: (es ++ ((P ++ A) ++ E))) := by
 have e : X :: D :: (es ++ ((P ++ A) ++ E)) = ([X, D] ++ es) ++ (P ++ (A ++ E)) := by simp
 have e2 : P ++ (X :: D :: (es ++ (A ++ E))) = P ++ (([X, D] ++ es) ++ (A ++ E)) := by simp
 rw [e, e2, ← List.append_assoc P, ← List.append_assoc ([X, D] ++ es)]
 exact List.perm_append_comm.append_right (A ++ E)
theorem ShM.close {wc w : World} {P A E es : List Ent} {b bd lo hi dc : Nat} {s : Sh} {S : DS} {da : Option Addr} {cs : List Value} (hE : DkE bd S E) (hB : PrBk cs s.ps es)
 (M : Mem wc w (P ++ (shE b bd s (.slice da s.ps.length dc) :: rowE lo hi 199 6 (.slice da s.ps.length dc) s.ps.length cs :: (es ++ (A ++ E))))) : ShM wc w (P ++ A) b bd s S :=
 ⟨da, dc, lo, hi, cs, es, E, hE, hB, M.perm perm_close⟩
theorem ShM.open {wc w : World} {P A : List Ent} {b bd : Nat} {s : Sh} {S : DS} (h : ShM wc w (P ++ A) b bd s S) : ∃ (da : Option Addr) (dc lo hi : Nat) (cs : List Value) (es E : List Ent), DkE bd S E ∧ PrBk cs s.ps es ∧
 Mem wc w (P ++ (shE b bd s (.slice da s.ps.length dc) :: rowE lo hi 199 6 (.slice da s.ps.length dc) s.ps.length cs :: (es ++ (A ++ E)))) := by
 obtain ⟨da, dc, lo, hi, cs, es, E, hE, hB, M⟩ := h
 exact ⟨da, dc, lo, hi, cs, es, E, hE, hB, M.perm perm_close.symm⟩
def wQ (ps : Pl) : Nat := wtP ps + ps.length
end Go.Proofs.YtkkcehcpffamkaaGreat

namespace Go.Proofs.YtkkcehcpffamkaaGreat
open Go.RowKit Go.Sort
def ComeP (wc : World) (A : List Ent) (b bd : Nat) (s : Sh) (S0 : DS) (r : Rc) (x : List Wr) (all : Int) (w' : World) : Prop :=
 ∃ s1 S1, ((s1 = s ∧ S1 = S0) ∨ (s1 = s.save ∧ S1 = s.saveD S0)) ∧ (nOf (r.enc x).length : Nat) + all ≤ 24 - (s1.n - s1.a) ∧ ShM wc w' A b bd (s1.keep r x) (s1.keepD S1 r x true)
end Go.Proofs.YtkkcehcpffamkaaGreat

namespace Go.Proofs.YtkkcehcpffamkaaGreat
open Go.RowKit Go.Sort
abbrev r3 (nm : Nm) (y : Bool) : Rc := { Rc.zero with kind := 3, name := nm, yes := y }
def LocalOk (s : Sh) (r : Rc) (x : List Wr) : Prop := r.may x = true ∧ r.kind = 1 ∧ findP r.name s.ps = none
def PrepOk (s : Sh) (r : Rc) (x : List Wr) : Prop := r.may x = true ∧ r.kind = 2 ∧ findP r.name s.ps = none
end Go.Proofs.YtkkcehcpffamkaaGreat

namespace Go.Proofs.YtkkcehcpffamkaaGreat
open Go.RowKit Go.Sort
def OpenF (wc : World) (A E : List Ent) (S0 : DS) (x : Su) (l0 : Rl) (e : Ending) (w' : World) : Prop :=
 ∃ (s : St) (ps : Pl) (da : Option Addr) (dc lo hi : Nat) (cs : List Value) (es : List Ent), e = .returned (.tuple #[.agg (s.cellsL (.slice da ps.length dc)).toArray, .int .i64 0]) ∧
  Mem wc w' (rowE lo hi 199 6 (.slice da ps.length dc) ps.length cs :: (es ++ (A ++ E))) ∧ PrBk cs ps es ∧ s.ok ∧ ps.length ≤ 24 ∧ foldS (stSu x x.tail (scanG S0 x.tail).next) [] l0 = (s, ps)
set_option maxHeartbeats 4000000 in
set_option maxRecDepth 10000 in
theorem openF_any {wc w : World} {A E : List Ent} {b : Nat} {S0 : DS} (x : Su) (l0 : Rl) (hE : DkE b S0 E) (M : Mem wc w (A ++ E)) (hup : S0.down = false) (hw : ∀ k, (S0.cache k).length ≤ 1000000) (hz : ∀ k, k < 8 → zerosB (S0.get (26 + k)) = true) (hg : gsR (secD S0) = (x, 0)) (hrec : Recs l0 ((scanG S0 x.tail).l.map (·.2))) :
 Calls Tryz.prog 74 #[.pointer (some ⟨b, 0, none⟩)] w (OpenF wc A E S0 x l0) := by
 refine calls_enter Tryz.func74 rfl 92 rfl rfl ?_; intro a S
 refine nxD (st_alloc S M rfl rfl (zSt.cellsL (.slice none 0 0)).toArray (by kernel_rfl) ?_); intro a w1 bZ S M hB
 refine qG [1] S ?_; intro a S
 refine nxC (wp_seq (nxD (qG [1] S ?_))); intro a S
 refine qY S (y_eqlPS (by kernel_rfl) S rfl) ?_; intro a S
 refine nxC (st_condF S rfl (wp_skip (nxE (qG [1] S ?_)))); intro a S
 refine qC (xs := [.tmp 20]) S (qE Tryz.func75) rfl (getH_any (A := _ :: A) hE M hup hw) ?_
 rintro _ w2 ⟨rfl, M1⟩; refine ⟨_, rfl, ?_⟩; intro a S; have M := M1; clear M1
 simp only [List.cons_append] at M
 rw [hg] at S
 refine qG [1, 1, 1] S ?_; intro a S
 refine st_alloc S M rfl rfl #[.int .i64 0, .int .i64 0, .int .i64 0, .int .i64 0, .int .i64 0, .int .i64 0, .int .i64 0, .int .i64 0, .int .i64 0, .int .i64 0, .int .i64 0, .int .i64 0, .int .i64 0] (by kernel_rfl) ?_; intro a w3 bU S M hB
 refine qS (sz := 13) (us := [_, _, _, _, _, _, _, _, _, _, _, _, _]) S M 0 ?_; intro w4 M
 refine qG [1] S ?_; intro a S
 refine nxC (wp_seq (nxD (qG [1, 1] S ?_))); intro a S
 refine nxC (st_if (t := 25) S rfl ?_ ?_)
 ·intro h25 S
  exact absurd rfl h25
 intro h25 S
 refine st_condF S rfl (wp_skip (nxE (qY S (y_loadAgg (cs := [_, _, _, _, _, _, _, _, _, _, _, _, _]) S (by kernel_rfl) rfl rfl (M.cellsAt (k := 13) 0 rfl rfl)) ?_))); intro a S
 refine qY S (y_build (ps := [(0, .tmp 28)]) (pl := [(0, 13), (13, 2), (15, 256), (271, 1), (272, 1)]) (z := zSt.cellsL (.slice none 0 0)) (cs := (stSu x 0 0).cellsL (.slice none 0 0)) S (by kernel_rfl) rfl ((fillL_one (us := x.cellsL) (off := 0) (sz := 13) rfl rfl rfl (by rw [St.len zSt_ok]; exact (by decide : 0 + 13 ≤ 273))).trans (by rw [stSu_fill]))) ?_; intro a S
 refine st_alloc S M rfl rfl (zSt.cellsL (.slice none 0 0)).toArray (by kernel_rfl) ?_; intro a w5 bX S M hB
 refine st_storeAll (sz := 273) S M 0 rfl (by kernel_rfl) rfl rfl (by with_reducible first | exact St.len zSt_ok _ | exact St.len (stSu_ok _ _ _) _ | exact St.len hs _ | exact St.len hs2 _) (by with_reducible first | exact St.one zSt_ok _ rfl | exact St.one (stSu_ok _ _ _) _ rfl | exact St.one hs _ rfl | exact St.one hs2 _ rfl) rfl (by with_reducible first | exact St.len zSt_ok _ | exact St.len (stSu_ok _ _ _) _ | exact St.len hs _ | exact St.len hs2 _) ?_; intro w6 M
 simp only [List.set_cons_zero, List.set_cons_succ] at M
 refine nxC (wp_seq (nxD (qG [1] S ?_))); intro a S
 refine nxC (wp_block (wp_loop_g (fun m a w' => ∃ (k : Nat), k ≤ 8 ∧ m = 8 - k ∧ Sees 92 a [(0, .pointer (some ⟨b, 0, none⟩)), (2, .pointer (some ⟨bZ, 0, none⟩)), (4, .pointer (some ⟨bU, 0, none⟩)), (6, .pointer (some ⟨bX, 0, none⟩)), (30, .int .i64 (k : Int))] ∧ Mem wc w' (.blk bX ((stSu x 0 0).cellsL (.slice none 0 0)).toArray 62 :: .blk bU x.cellsL.toArray 56 :: .blk bZ (zSt.cellsL (.slice none 0 0)).toArray 62 :: (A ++ E))) (8) ?_ ?_))
 ·skip
  exact ⟨0, by omega, rfl, S.sub _ rfl, M⟩
 intro m a wl
 rintro ⟨k, hk, rfl, S, M⟩
 refine nxD (qG [1] S ?_); intro a S
 refine nxC (wp_seq (st_if (t := 31) S rfl ?_ ?_))
 ·intro h31 S
  refine st_condT S rfl (wp_skip (then_normal (wp_seq (wp_block (nxD (qG [1, 1] S ?_)))))); intro a S
  refine nxA (qG [1, 1] S ?_); intro a S
  refine qC (xs := [.tmp 34, .tmp 35]) S (qE Tryz.func103) rfl (getZ_any (A := _ :: _ :: _ :: A) k hE M hup hw (by omega) (hz k (by omega))) ?_
  rintro _ w7 ⟨bN, rfl, M1⟩; refine ⟨_, rfl, ?_⟩; intro a S; have M := M1; clear M1
  simp only [List.cons_append] at M
  refine qG [1, 1, 1, 1, 1] S ?_; intro a S
  refine nxC (wp_seq (nxD (qG [1, 1] S ?_))); intro a S
  refine nxC (st_if (t := 40) S rfl ?_ ?_)
  ·intro h40 S
   exact absurd rfl h40
  intro h40 S
  refine st_condF S rfl (wp_skip (nxF (qG [16, 1] S ?_))); intro a S
  (first | refine qY S (y_mulN S rfl rfl (by omega)) ?_ | refine qY S (y_int S rfl rfl rfl) ?_); intro a S
  refine qG [1] S ?_; intro a S
  (first | refine qY S (y_addN S rfl rfl (by omega)) ?_ | refine qY S (y_int S rfl rfl rfl) ?_); intro a S
  (first | refine qY S (y_mulN S rfl rfl (by omega)) ?_ | refine qY S (y_int S rfl rfl rfl) ?_); intro a S
  refine qY S (y_sliceA2 (m := 32) (sz := 8) S (by kernel_rfl) rfl rfl rfl (by first | omega | (simp; done) | (simp; omega))) ?_; intro a S
  refine qG [1] S ?_; intro a S
  refine st_copyN (e := 49) (sz := 8) (us := zVs) S M 1 rfl rfl (by kernel_rfl) rfl rfl rfl (M.cellsAt (k := 32) 0 rfl rfl) (by rw [show zVs.length = 32 from rfl]; simp only [Nat.min_def]; split <;> omega) (by kernel_rfl) (by rw [St.len (stSu_ok _ _ _), show zVs.length = 32 from rfl]; exact (show 0 + 15 + ((k : Int) * 4).toNat * 8 + 32 ≤ 273 by omega)) ?_
  intro a wy S M
  rw [show 0 + 15 + ((k : Int) * 4).toNat * 8 = 15 + k * 32 by omega] at M
  simp only [List.set_cons_zero, List.set_cons_succ] at M
  replace S := S.keep [0, 2, 4, 6, 30, 31, 7, 8, 9, 40]
  refine wpList_nil (block_normal (nxF ?_))
  (first | refine qY S (y_addN S rfl rfl (by omega)) ?_ | refine qY S (y_int S rfl rfl rfl) ?_); intro a S
  refine qG [1] S ?_; intro a S
  refine nxC ?_
  skip
  replace M := M.drp 0
  refine ⟨8 - (k + 1), by omega, k + 1, by omega, rfl, S.sub _ rfl, ?_⟩
  have e : ((stSu x 0 0).cellsL (.slice none 0 0)).take (15 + k * 32) ++ zVs ++ ((stSu x 0 0).cellsL (.slice none 0 0)).drop (15 + k * 32 + zVs.length) = (stSu x 0 0).cellsL (.slice none 0 0) := stSu_zero x 0 0 _ (by omega)
  rw [← e]
  exact M
 intro h31 S
 refine st_condF S rfl (wp_exit (then_exit (then_exit (block_hit (then_normal (wp_seq ?_))))))
 have htl := gsR_tail hg
 obtain ⟨sc, hsc⟩ : ∃ sc, scanG S0 x.tail = sc := ⟨_, rfl⟩
 refine wp_region_lit (qR [1, 2, 2] S M ?_); intro a S
 refine qC (xs := [.tmp 54, .tmp 56]) S (qE Tryz.func92) rfl (Scan_anyG (A := _ :: _ :: _ :: A) x.tail hE M hup hw htl) ?_
 rintro _ w8 ⟨rs, ra, rc, rlo, rhi, rfl, hrs, h90, h24, M1⟩; refine ⟨_, rfl, ?_⟩; intro a S
 have M := M1.perm (perm_r1 (es := rs.map RB.ent))
 simp only [List.append_eq] at M
 clear M1
 rw [hsc] at hrs S
 refine qG [1, 1, 1, 1] S ?_; intro a S
 refine st_alloc S M rfl rfl #[.int .i64 0, .int .i64 0] (by kernel_rfl) ?_; intro a w9 bL S M hB
 refine qG [1] S ?_; intro a S
 refine qS (sz := 2) (us := [_, _]) S M 0 ?_; intro w10 M
 refine qG [1] S ?_; intro a S
 refine nxC (wp_seq (nxD (qG [1, 1] S ?_))); intro a S
 refine nxC (st_if (t := 62) S rfl ?_ ?_)
 ·intro h62 S
  exact absurd rfl h62
 intro h62 S
 refine st_condF S rfl (wp_skip (nxE (qY S (y_loadAgg (cs := [_, _]) S (by kernel_rfl) rfl rfl (M.cellsAt (k := 2) 0 rfl rfl)) ?_))); intro a S
 refine qG [14] S ?_; intro a S
 refine st_store (sz := 2) (us := [_, _]) S M 1 rfl (by kernel_rfl) rfl rfl rfl rfl rfl rfl (by rw [St.len (stSu_ok _ _ _)]; exact (by decide : 15 ≤ 273)) ?_; intro w11 M
 simp only [putL, List.set_cons_zero, List.set_cons_succ, Nat.reduceAdd] at M
 refine nxC (wp_seq (wp_seq ?_))
 rw [stSu_log] at M
 replace M := M.drp 0
 replace M := M.drp 1
 obtain ⟨dlo, dhi, M1⟩ := M.nilRow 199 6
 clear M
 obtain ⟨F0, hF0⟩ : ∃ F0, F0 = rowE rlo rhi 30 1 (.slice ra rs.length rc) rs.length (rs.map RB.val) :: (rs.map RB.ent ++ (A ++ E)) := ⟨_, rfl⟩
 have hRow : rowE rlo rhi 30 1 (.slice ra rs.length rc) rs.length (rs.map RB.val) ∈ F0 := by rw [hF0]; exact List.mem_cons_self ..
 have hEnt : ∀ r ∈ rs, r.ent ∈ F0 := fun r hr => by rw [hF0]; exact List.mem_cons_of_mem _ (List.mem_append_left _ (List.mem_map_of_mem hr))
 have hSub : (A ++ E).Sublist F0 := by rw [hF0]; exact .cons _ (List.sublist_append_right _ _)
 rw [← hF0] at M1
 have M : Mem wc w11 (.blk bX ((stSu x x.tail sc.next).cellsL (.slice none ([] : Pl).length 0)).toArray 62 :: .blk bZ (zSt.cellsL (.slice none 0 0)).toArray 62 :: rowE dlo dhi 199 6 (.slice none ([] : Pl).length 0) ([] : Pl).length [] :: ([] ++ F0)) := M1.perm (List.perm_middle (l₁ := [_, _])).symm
 clear M1 hF0
 have hle : rs.length ≤ 24 := h24
 have hll : l0.length = rs.length := by rw [hrec.len, hsc, ← hrs, List.length_map]
 refine wp_region_lit (qG [1] S ?_); intro a S
 refine qY S (y_lenS (E := 30) S rfl (by kernel_rfl)) ?_; intro a S
 refine qG [1] S ?_; intro a S
 refine nxC (wp_block (wp_loop_g (fun m a w' => ∃ (k : Nat) (s : St) (ps : Pl) (da : Option Addr) (dc dlo dhi : Nat) (cs : List Value) (es : List Ent), k ≤ rs.length ∧ m = rs.length - k ∧ s.ok ∧ ps.length ≤ k ∧ foldS (stSu x x.tail sc.next) [] (l0.take k) = (s, ps) ∧ PrBk cs ps es ∧ Sees 92 a [(2, .pointer (some ⟨bZ, 0, none⟩)), (6, .pointer (some ⟨bX, 0, none⟩)), (67, .slice ra rs.length rc), (68, .int .i64 (rs.length : Int)), (69, .int .i64 (k : Int))] ∧ Mem wc w' (.blk bX (s.cellsL (.slice da ps.length dc)).toArray 62 :: .blk bZ (zSt.cellsL (.slice none 0 0)).toArray 62 :: rowE dlo dhi 199 6 (.slice da ps.length dc) ps.length cs :: (es ++ F0))) (rs.length) ?_ ?_))
 ·skip
  exact ⟨0, stSu x x.tail sc.next, [], none, 0, dlo, dhi, [], [], Nat.zero_le _, rfl, stSu_ok _ _ _, Nat.le_refl _, rfl, PrBk.nil', S.sub _ rfl, M⟩
 intro m a wl
 rintro ⟨k, s, ps, da, dc, dlo, dhi, cs, es, hk, rfl, hs, hpl, hfo, hBk, S, M⟩
 have hSub2 : (A ++ E).Sublist (es ++ F0) := hSub.trans (List.sublist_append_right _ _)
 refine nxD (qG [1] S ?_); intro a S
 refine nxC (wp_seq (st_fi (t := 70) S rfl ?_ ?_))
 ·intro h70 S
  refine st_condF S rfl (wp_exit (then_exit (then_exit (block_hit (then_normal (wp_seq ?_))))))
  obtain rfl : k = rs.length := by omega
  rw [List.take_of_length_le (by omega)] at hfo
  refine wp_region_lit (qY S (y_loadAgg (k := 273) (cs := _) S (by kernel_rfl) rfl (by with_reducible first | exact St.len zSt_ok _ | exact St.len (stSu_ok _ _ _) _ | exact St.len hs _ | exact St.len hs2 _) (M.cellsAt 0 rfl cutL_all)) ?_); intro a S
  refine st_storeAll (sz := 273) S M 1 rfl (by kernel_rfl) rfl rfl (by with_reducible first | exact St.len zSt_ok _ | exact St.len (stSu_ok _ _ _) _ | exact St.len hs _ | exact St.len hs2 _) (by with_reducible first | exact St.one zSt_ok _ rfl | exact St.one (stSu_ok _ _ _) _ rfl | exact St.one hs _ rfl | exact St.one hs2 _ rfl) rfl (by with_reducible first | exact St.len zSt_ok _ | exact St.len (stSu_ok _ _ _) _ | exact St.len hs _ | exact St.len hs2 _) ?_; intro w17 M
  simp only [List.set_cons_zero, List.set_cons_succ] at M
  refine qG [1] S ?_; intro a S
  refine nxC (wp_ret (end_two S rfl (res_agg (k := 273) (cs := _) (by kernel_rfl) rfl (by with_reducible first | exact St.len zSt_ok _ | exact St.len (stSu_ok _ _ _) _ | exact St.len hs _ | exact St.len hs2 _) (M.cellsAt 1 rfl cutL_all)) (res_tmp rfl) ?_))
  exact ⟨s, ps, da, dc, dlo, dhi, cs, es, rfl, M.sub (.cons _ (.cons _ (.cons_cons _ ((List.Sublist.refl es).append hSub)))), hBk, hs, by omega, by rw [hsc]; exact hfo⟩
 intro h70 S
 refine st_condT S rfl (wp_skip (then_normal (wp_seq (wp_block (wp_seq ?_)))))
 have hkl : k < rs.length := by omega
 obtain ⟨r, hr⟩ : ∃ r, rs[k]? = some r := ⟨_, List.getElem?_eq_getElem hkl⟩
 have hrm := List.mem_of_getElem? hr
 have hr90 := h90 r hrm
 obtain ⟨p, hp⟩ : ∃ p, l0[k]? = some p := ⟨_, List.getElem?_eq_getElem (by omega)⟩
 have hpr := hrec.get k p r.bs hp (by rw [hsc, ← hrs, List.getElem?_map, hr]; rfl)
 have hpm : p.1.may p.2 = true := by
  have h2 := hpr.2
  unfold takes at h2
  cases h3 : p.1.may p.2 with
  | true => rfl
  | false => rw [h3] at h2; cases h2
 refine wp_region_lit (qY S (y_indexR (e := 30) (sz := 1) S (by kernel_rfl) rfl ((M.readIn (.tail _ (.tail _ (.tail _ (List.mem_append_right _ hRow)))) (by unfold maxLen; omega))) rfl (by first | omega | (simp; done) | (simp; omega))) ?_); intro a S
 try simp only [Int.toNat_natCast, Nat.mul_one, Nat.zero_add] at S
 refine qY S (y_load S (by kernel_rfl) rfl ((M.readIn (.tail _ (.tail _ (.tail _ (List.mem_append_right _ hRow)))) (by unfold maxLen; omega)).at_.one k (by rw [List.getElem?_map, hr]; rfl))) ?_; intro a S
 refine qG [1] S ?_; intro a S
 refine nxA (qG [1] S ?_); intro a S
 refine qC (xs := [.tmp 74]) S (qE Tryz.func93) rfl (readR_any r.val r.bs _ (M.readIn (.tail _ (.tail _ (.tail _ (List.mem_append_right _ (hEnt r hrm))))) (by unfold maxLen; omega))) ?_
 rintro _ w12 hP; obtain ⟨q, wx, wa, wcp, c, rfl, hF, h8, hs31, hcc⟩ := ReadRP.form hP; refine ⟨_, rfl, ?_⟩; intro a S
 obtain ⟨wlo, whi, -, M1⟩ := M.pushFresh hF
 clear M hP hF
 have M := M1
 clear M1
 obtain ⟨rfl, rfl, rfl⟩ : c = 0 ∧ q = p.1 ∧ wx = p.2 := by
  rcases hcc with ⟨h1, h2, h3⟩ | ⟨-, -, -, h4⟩
  ·have := enc_inj h2 hpm (rest := []) (by rw [h3, hpr.1, List.append_nil])
   exact ⟨h1, this.1, this.2.1⟩
  ·exact absurd hpr.1 (h4 _ _ hpm)
 refine qG [1, 1, 1] S ?_; intro a S
 refine st_alloc S M rfl rfl #[.int .i8 0, .int .i64 0, .int .i64 0, .int .i64 0, .bool false, .slice none 0 0, .int .i64 0, .int .i64 0, .int .i64 0, .int .i64 0, .int .i64 0, .int .i64 0] (by kernel_rfl) ?_; intro a w13 bY S M hB
 refine qS (sz := 12) (us := [_, _, _, _, _, _, _, _, _, _, _, _]) S M 0 ?_; intro w14 M
 refine qG [1] S ?_; intro a S
 refine nxC (wp_seq (nxD (qG [1, 1] S ?_))); intro a S
 refine nxC (st_if (t := 79) S rfl ?_ ?_)
 ·intro h79 S
  exact absurd rfl h79
 intro h79 S
 refine st_condF S rfl (wp_skip (nxE (qY S (y_loadAgg (k := 273) (cs := _) S (by kernel_rfl) rfl (by with_reducible first | exact St.len zSt_ok _ | exact St.len (stSu_ok _ _ _) _ | exact St.len hs _ | exact St.len hs2 _) (M.cellsAt 2 rfl cutL_all)) ?_))); intro a S
 refine qY S (y_loadAgg (cs := [_, _, _, _, _, _, _, _, _, _, _, _]) S (by kernel_rfl) rfl rfl (M.cellsAt (k := 12) 0 rfl rfl)) ?_; intro a S
 refine qC (xs := [.tmp 82, .tmp 83]) S (qE Tryz.func104) rfl (apply_any s hs _ cs ps _ ((hBk.prs M (List.mem_of_getElem? (show _[4]? = _ from rfl)) (fun e he => by simp [he]) (by unfold maxLen; omega)).wide (Nat.zero_le _) (Nat.le_refl _)) (by omega) hBk.short p.1 wa wcp p.2 (M.readAll 1 rfl (by unfold maxLen; omega)) (by omega) (by omega)) ?_
 rintro _ w15 hA; obtain ⟨s2, ps2, c2, da2, dc2, lo2, hi2, cs2, es2, rfl, hs2, M2, hBk2, hc2⟩ := apply_form hA (by omega); refine ⟨_, rfl, ?_⟩; intro a S; have hK := M2.below
 obtain ⟨rfl, rfl, rfl⟩ : c2 = 0 ∧ s2 = appSt s ps p.1 p.2 ∧ ps2 = (stepO ps p.1 p.2).1 := by
  rcases hc2 with ⟨-, h1, h2, h3⟩ | ⟨h1, -⟩
  ·exact ⟨h1, h2, h3⟩
  ·rw [hpr.2] at h1; cases h1
 replace M := (M.join M2).perm perm_r5
 clear M2
 refine qG [1, 1, 1] S ?_; intro a S
 refine st_storeAll (sz := 273) S M 2 rfl (by kernel_rfl) rfl rfl (by with_reducible first | exact St.len zSt_ok _ | exact St.len (stSu_ok _ _ _) _ | exact St.len hs _ | exact St.len hs2 _) (by with_reducible first | exact St.one zSt_ok _ rfl | exact St.one (stSu_ok _ _ _) _ rfl | exact St.one hs _ rfl | exact St.one hs2 _ rfl) rfl (by with_reducible first | exact St.len zSt_ok _ | exact St.len (stSu_ok _ _ _) _ | exact St.len hs _ | exact St.len hs2 _) ?_; intro w16 M
 simp only [List.set_cons_zero, List.set_cons_succ] at M
 refine qG [1] S ?_; intro a S
 replace S := S.keep [2, 6, 67, 68, 69, 70, 13, 14, 79, 15]
 refine nxA (qG [1, 1] S ?_); intro a S
 refine nxC (st_if (t := 88) S rfl ?_ ?_)
 ·intro h88 S
  exact absurd rfl h88
 intro h88 S
 refine st_condF S rfl (wp_skip (block_normal (nxF ?_)))
 (first | refine qY S (y_addN S rfl rfl (by omega)) ?_ | refine qY S (y_int S rfl rfl rfl) ?_); intro a S
 refine qG [1] S ?_; intro a S
 refine nxC ?_
 skip
 have hsl := stepP_len ps p.1 p.2
 replace M := M.drp 0
 replace M := M.drp 0
 replace M := M.drp 2
 exact ⟨rs.length - (k + 1), by omega, k + 1, _, _, da2, dc2, lo2, hi2, cs2, es2, by omega, rfl, hs2, by omega, by rw [List.take_add_one, hp, show (some p).toList = [p] from rfl, foldS_snoc, hfo], hBk2, S.sub _ rfl, M.sub (.cons_cons _ (.cons_cons _ (.cons_cons _ ((List.Sublist.refl es2).append (List.sublist_append_right es F0)))))⟩
theorem gs_new : gsR (secD DS.new) = (suFirst, 0) := by
 have hz : ∀ k, k < 2 → zerosB (secD DS.new k) = true := fun k hk => by
  have e : k = 0 ∨ k = 1 := by omega
  rcases e with rfl | rfl <;> decide +kernel
 have hl : ∀ k, k < 2 → (secD DS.new k).length = 64 := fun k hk => by
  have e : k = 0 ∨ k = 1 := by omega
  rcases e with rfl | rfl <;> decide +kernel
 have hb : bestN (secD DS.new) 2 = none := by
  rw [bestH_zero (hz 1 (by omega)) (hl 1 (by omega)), bestH_zero (hz 0 (by omega)) (hl 0 (by omega))]; rfl
 unfold gsR
 rw [hb, hz 0 (by omega), hz 1 (by omega)]; rfl
theorem scan_new : (scanG DS.new 1).l = [] ∧ (scanG DS.new 1).next = 1 := by
 rw [scanG_eq DS.new (by omega)]
 have hend : Ends 1 0 (secsOf DS.new 1) := fun y r hy f ld hf => by
  have h1 : (secsOf DS.new 1)[0]? = some y := by rw [hy]; rfl
  rw [secsOf_get DS.new 1 (by omega), secAt_new] at h1
  rw [← Option.some.inj h1, readF_zero] at hf; cases hf
 exact scan_end (nx := 1) (l := []) hend
theorem home_new (k : Nat) (h : k < 8) : zerosB (DS.new.get (26 + k)) = true := by
 have e : k = 0 ∨ k = 1 ∨ k = 2 ∨ k = 3 ∨ k = 4 ∨ k = 5 ∨ k = 6 ∨ k = 7 := by omega
 rcases e with rfl | rfl | rfl | rfl | rfl | rfl | rfl | rfl <;> decide +kernel
end Go.Proofs.YtkkcehcpffamkaaGreat

namespace Go.Proofs.YtkkcehcpffamkaaGreat
open Go.RowKit Go.Sort
theorem write_leS {S0 : DS} (hw : ∀ k, (S0.cache k).length ≤ 1000) (k : Int) (bs : List UInt8) (j : Int) : ((S0.write k bs).cache j).length ≤ 1000000 := by have := write_cache_le (k := k) (bs := bs) hw j; omega
theorem fillL_cons {pl : Nat → Option (Nat × Nat)} {l us : List Value} {i off sz : Nat} {v : Value} {r : List (Nat × Value)} (hp : pl i = some (off, sz)) (hu : v.cells.toList = us) (hsz : us.length = sz) (hle : off + sz ≤ l.length) : fillL pl l ((i, v) :: r) = fillL pl (putL l off us) r := by
 subst hu
 rw [fillL]
 simp only [hp]
 have h1 : Nat.beq v.cells.toList.length sz = true := by rw [hsz]; exact Nat.beq_refl sz
 have h2 : Nat.ble (off + sz) l.length = true := Nat.ble_eq_true_of_le hle
 rw [h1, h2]; rfl
abbrev zShC : List Value := [.pointer none] ++ (zSt.cellsL (.slice none 0 0) ++ [])
theorem zShC_len : zShC.length = 274 := by
 unfold zShC; rw [List.length_append, List.length_append, St.len zSt_ok]; rfl
theorem fill_sh (bd : Nat) (s : Sh) (dv : Value) (hl : s.h.length = 32) : fillL (fun i => [(0, 1), (1, 273)][i]?) zShC [(0, pB bd), (1, .agg (s.st.cellsL dv).toArray)] = some (shC bd s dv) := by
 have l1 : (s.st.cellsL dv).length = 273 := St.len (stX_ok _ _ _ _ hl) _
 have e0 : putL zShC 0 [pB bd] = [pB bd] ++ (zSt.cellsL (.slice none 0 0) ++ []) := rfl
 rw [fillL_cons (us := [pB bd]) (off := 0) (sz := 1) rfl rfl rfl (by rw [zShC_len]; omega), e0, fillL_one (us := s.st.cellsL dv) (off := 1) (sz := 273) rfl rfl l1 (by rw [List.length_append, List.length_append, St.len zSt_ok]; exact Nat.le_refl _)]
 congr 1
 rw [putL_eq _ _ _ (by rw [List.length_append, List.length_append, St.len zSt_ok, l1]; exact Nat.le_refl _), l1, List.drop_of_length_le (by rw [List.length_append, List.length_append, St.len zSt_ok]; exact Nat.le_refl _)]
 unfold shC
 rw [List.append_nil, List.append_nil, List.append_nil]; rfl
def sh0 : Sh := ⟨suFirst, 1, 1, List.replicate 32 zV8, 0, []⟩
set_option maxHeartbeats 1000000 in
set_option maxRecDepth 10000 in
theorem shOpen0_any {wc w : World} {A E : List Ent} {bd : Nat} (hE : DkE bd DS.new E) (M : Mem wc w (A ++ E)) :
 Calls Tryz.prog 40 #[pB bd] w fun e w' => ∃ b, e = .returned (.tuple #[pB b, .int .i64 0]) ∧ ShM wc w' A b bd sh0 DS.new := by
 have hok : sh0.st.ok := stX_ok _ _ _ _ rfl
 refine calls_enter Tryz.func40 rfl 20 rfl rfl ?_; intro a S
 refine nxD (qG [1, 1] S ?_); intro a S
 refine nxC (wp_seq (nxD (qG [1] S ?_))); intro a S
 refine qY S (y_eqlPS (by kernel_rfl) S rfl) ?_; intro a S
 refine nxC (st_condF S rfl (wp_skip (nxE (qG [1] S ?_)))); intro a S
 refine qC (xs := [.tmp 9]) S (qE Tryz.func74) rfl (openF_any suFirst [] hE M rfl (fun k => Nat.zero_le _) home_new gs_new (by rw [show suFirst.tail = 1 from rfl, scan_new.1]; exact Recs.nil)) ?_
 rintro _ w1 ⟨s2, ps2, da, dc, lo, hi, cs, es, rfl, M1, hBk, hs2, hp2, hfo⟩; refine ⟨_, rfl, ?_⟩; intro a S; have M := M1; clear M1
 obtain ⟨rfl, rfl⟩ : s2 = sh0.st ∧ ps2 = [] := by
  rw [show suFirst.tail = 1 from rfl, scan_new.2] at hfo
  exact ⟨(congrArg Prod.fst hfo).symm, (congrArg Prod.snd hfo).symm⟩
 refine qG [1, 1, 1] S ?_; intro a S
 refine st_alloc S M rfl rfl (zSt.cellsL (.slice none 0 0)).toArray (by kernel_rfl) ?_; intro a w2 bW S M hB
 refine st_storeAll (sz := 273) S M 0 rfl (by kernel_rfl) rfl rfl (by with_reducible first | exact St.len hok _ | exact St.len zSt_ok _ | exact shC_len (s := sh0) rfl | exact zShC_len) (by with_reducible first | exact St.one hok _ rfl | exact St.one zSt_ok _ rfl) rfl (by with_reducible first | exact St.len hok _ | exact St.len zSt_ok _ | exact shC_len (s := sh0) rfl | exact zShC_len) ?_; intro w3 M
 simp only [List.set_cons_zero, List.set_cons_succ] at M
 refine qG [1] S ?_; intro a S
 refine nxC (wp_seq (nxD (qG [1, 1] S ?_))); intro a S
 refine nxC (st_if (t := 14) S rfl ?_ ?_)
 ·intro h14 S
  exact absurd rfl h14
 intro h14 S
 refine st_condF S rfl (wp_skip (nxE (qG [1] S ?_))); intro a S
 refine qY S (y_loadAgg (k := 273) (cs := _) S (by kernel_rfl) rfl (by with_reducible first | exact St.len hok _ | exact St.len zSt_ok _ | exact shC_len (s := sh0) rfl | exact zShC_len) (M.cellsAt 0 rfl cutL_all)) ?_; intro a S
 refine qY S (y_build (ps := [(0, .tmp 16), (1, .tmp 17)]) (pl := [(0, 1), (1, 273)]) (z := zShC) (cs := shC bd sh0 (.slice da ([] : Pl).length dc)) S (by kernel_rfl) rfl (fill_sh bd sh0 _ rfl)) ?_; intro a S
 refine st_box S M rfl rfl rfl _ rfl ?_; intro a w4 bX S M hB
 refine qG [1, 1] S ?_; intro a S
 refine nxC (wp_ret (end_two S rfl (res_tmp rfl) (res_tmp rfl) ?_))
 skip
 replace M := M.drp 1
 exact ⟨bX, rfl, da, dc, lo, hi, cs, es, E, hE, hBk, M⟩
set_option maxHeartbeats 1000000 in
theorem superS_any {wc w : World} {A E es : List Ent} {b bd bO lo hi dc : Nat} {s : Sh} {S0 : DS} {da : Option Addr} {cs : List Value} (y : Su) (hE : DkE bd S0 E)
 (M : Mem wc w (.blk bO y.cellsL.toArray 56 :: shE b bd s (.slice da s.ps.length dc) :: rowE lo hi 199 6 (.slice da s.ps.length dc) s.ps.length cs :: (es ++ (A ++ E)))) (hup : S0.down = false) (hw : ∀ k, (S0.cache k).length ≤ 1000) (hm : ({ y with gen := y.gen + 1 } : Su).may) (hg : 0 ≤ y.gen) :
 Calls Tryz.prog 76 #[pB b, pB bO] w fun e w' => e = .returned (.int .i64 0) ∧ ∃ E', DkE bd (S0.write ((y.gen + 1) % 2) (supS { y with gen := y.gen + 1 })).flush E' ∧ Mem wc w' (.blk bO ({ y with gen := y.gen + 1 } : Su).cellsL.toArray 56 :: shE b bd s (.slice da s.ps.length dc) :: rowE lo hi 199 6 (.slice da s.ps.length dc) s.ps.length cs :: (es ++ (A ++ E'))) := by
 have hgm : y.gen + 1 ≤ 1099511627776 := hm.2.2.1
 refine calls_enter Tryz.func76 rfl 34 rfl rfl ?_; intro a S
 refine wp_seq ?_
 skip
 refine wp_region_lit (qG [1] S ?_); intro a S
 refine nxC (wp_seq (nxD (qR [1, 1, 1, 1, 1] S M ?_))); intro a S
 refine nxC (st_if (t := 10) S rfl ?_ ?_)
 ·intro h10 S
  exfalso; omega
 intro h10 S
 refine st_condF S rfl (wp_skip (nxE (qR [1, 1, 1, 1] S M ?_))); intro a S
 (first | refine qY S (y_addN S rfl rfl (by omega)) ?_ | refine qY S (y_int S rfl rfl rfl) ?_); intro a S
 refine qG [1, 1] S ?_; intro a S
 refine qS (sz := 1) (us := [_]) S M 0 ?_; intro w1 M
 refine nxC (wp_seq (wp_seq (wp_regionK [7] #[false, false, false, false, false, false, false, false, false] rfl M (by kernel_rfl) ?_))); intro w2 M
 refine k_pure 0 S rfl (fun w => y_move S rfl) ?_; intro a S
 refine k_pure 1 S rfl (fun w => y_nilCheck S rfl) ?_; intro a S
 refine k_pure 2 S rfl (fun w => y_fieldAddr (k := 0) S (by kernel_rfl) rfl) ?_; intro a S
 refine k_read 3 S rfl (fun w hW => have M := M.grow hW; y_load S (by kernel_rfl) rfl (M.cell 1 rfl (shC_d _ _ _))) ?_; intro a S
 refine k_pure 4 S rfl (fun w => y_move S rfl) ?_; intro a S
 refine k_pure 5 S rfl (fun w => y_nilCheck S rfl) ?_; intro a S
 refine k_read 6 S rfl (fun w hW => have M := M.grow hW; y_loadAgg (cs := [_, _, _, _, _, _, _, _, _, _, _, _, _]) S (by kernel_rfl) rfl rfl (M.cellsAt (k := 13) 0 rfl rfl)) ?_; intro a S
 refine k_one 7 rfl (by kernel_rfl) ?_
 refine qC (xs := [.tmp 21, .tmp 24]) S (qE Tryz.func90) rfl (putSuper_any (A := _ :: _ :: _ :: (es ++ A)) { y with gen := y.gen + 1 } hE (by simpa only [List.cons_append, List.append_assoc] using M) hup hm (fun k => by have := hw k; omega)) ?_
 rintro _ w3 ⟨rfl, E1, hE1, M1⟩; refine ⟨_, rfl, ?_⟩; intro a S; have M := M1; clear M1
 simp only [List.cons_append, List.append_assoc] at M
 refine nxC ⟨fun h => absurd h (by decide), ?_⟩
 refine k_pure 8 S rfl (fun w => y_assign S rfl) ?_; intro a S
 refine k_end (by kernel_rfl) ?_
 replace S := S.keep [0, 1, 4, 10, 5]
 refine nxE (qG [1, 1] S ?_); intro a S
 refine nxC (st_if (t := 27) S rfl ?_ ?_)
 ·intro h27 S
  exact absurd rfl h27
 intro h27 S
 refine st_condF S rfl (wp_skip (nxE (qG [1, 1, 1] S ?_))); intro a S
 refine qY S (y_load S (by kernel_rfl) rfl (M.cell 1 rfl (shC_d _ _ _))) ?_; intro a S
 refine qC (xs := [.tmp 32]) S (qE Tryz.func91) rfl (flush_any (A := _ :: _ :: _ :: (es ++ A)) hE1 (by simpa only [List.cons_append, List.append_assoc] using M) hup (write_leS hw _ _)) ?_
 rintro _ w4 ⟨rfl, E2, hE2, M1⟩; refine ⟨_, rfl, ?_⟩; intro a S; have M := M1; clear M1
 simp only [List.cons_append, List.append_assoc] at M
 refine qG [1] S ?_; intro a S
 refine nxC (wp_ret (end_one S rfl (res_tmp rfl) ?_))
 exact ⟨rfl, E2, hE2, M⟩
def Sh.begun (s : Sh) (y : Su) : Sh := { s with x := { s.x with inc := s.x.inc + 1, gen := y.gen + 1 } }
def begSu (s : Sh) (y : Su) : Su := { y with inc := s.x.inc + 1, gen := y.gen + 1 }
theorem shC_begun (bd : Nat) (s : Sh) (y : Su) (dv : Value) : ((shC bd s dv).set 4 (.int .i64 (s.x.inc + 1))).set 1 (.int .i64 (y.gen + 1)) = shC bd (s.begun y) dv := rfl
set_option maxHeartbeats 1000000 in
theorem begin11_any {wc w : World} {A : List Ent} {b bd : Nat} {s : Sh} {S0 : DS} (y : Su) (hM : ShM wc w A b bd s S0) (hup : S0.down = false) (hw : ∀ k, (S0.cache k).length ≤ 1000) (hg : gsR (secD S0) = (y, 0)) (hm : (begSu s y).may) (hi : 0 ≤ s.x.inc) (hy : 0 ≤ y.gen) (hl : s.h.length = 32) :
 Calls Tryz.prog 77 #[pB b] w fun e w' => e = .returned (.tuple #[.int .i64 (s.x.inc + 1), .int .i64 0]) ∧ ShM wc w' A b bd (s.begun y) (S0.write ((y.gen + 1) % 2) (supS (begSu s y))).flush := by
 obtain ⟨da, dc, lo, hi9, cs, es, E, hE, hBk, M⟩ := hM
 have him : s.x.inc + 1 ≤ 1048576 := hm.2.2.2.2.2.2.2.2.1
 refine calls_enter Tryz.func77 rfl 56 rfl rfl ?_; intro a S
 refine wp_seq ?_
 skip
 refine wp_region_lit (qG [1, 1] S ?_); intro a S
 refine nxC (wp_seq (nxD (qG [1] S ?_))); intro a S
 refine qY S (y_eqlPS (by kernel_rfl) S rfl) ?_; intro a S
 refine nxC (st_condF S rfl (wp_skip (then_normal (wp_seq (nxD (qG [1, 1, 2, 1, 4] S ?_)))))); intro a S
 refine qY S (y_load S (by kernel_rfl) rfl (M.cell 0 rfl (shC_inc _ _ _))) ?_; intro a S
 refine qG [1] S ?_; intro a S
 refine nxC (st_if (t := 15) S rfl ?_ ?_)
 ·intro h15 S
  exfalso; omega
 intro h15 S
 refine st_condF S rfl (wp_skip (nxE (qG [1, 1, 1] S ?_))); intro a S
 refine qY S (y_load S (by kernel_rfl) rfl (M.cell 0 rfl (shC_d _ _ _))) ?_; intro a S
 refine qC (xs := [.tmp 20]) S (qE Tryz.func75) rfl (getH_any (A := _ :: _ :: (es ++ A)) hE (by simpa only [List.cons_append, List.append_assoc] using M) hup (fun k => by have := hw k; omega)) ?_
 rintro _ w1 ⟨rfl, M1⟩; refine ⟨_, rfl, ?_⟩; intro a S; have M := M1; clear M1
 simp only [List.cons_append, List.append_assoc] at M
 rw [hg] at S
 refine qG [1, 1, 1] S ?_; intro a S
 refine st_alloc S M rfl rfl #[.int .i64 0, .int .i64 0, .int .i64 0, .int .i64 0, .int .i64 0, .int .i64 0, .int .i64 0, .int .i64 0, .int .i64 0, .int .i64 0, .int .i64 0, .int .i64 0, .int .i64 0] (by kernel_rfl) ?_; intro a w2 bO S M hB
 refine qS (sz := 13) (us := [_, _, _, _, _, _, _, _, _, _, _, _, _]) S M 0 ?_; intro w3 M
 refine qG [1] S ?_; intro a S
 replace S := S.keep [0, 2, 3, 8, 15, 4, 5]
 refine nxC (wp_seq (nxD (qG [1, 1] S ?_))); intro a S
 refine nxC (st_if (t := 25) S rfl ?_ ?_)
 ·intro h25 S
  exact absurd rfl h25
 intro h25 S
 refine st_condF S rfl (wp_skip (nxE (qG [1, 1, 2, 1, 4] S ?_))); intro a S
 refine qY S (y_load S (by kernel_rfl) rfl (M.cell 1 rfl (shC_inc _ _ _))) ?_; intro a S
 (first | refine qY S (y_addN S rfl rfl (by omega)) ?_ | refine qY S (y_int S rfl rfl rfl) ?_); intro a S
 refine qG [4] S ?_; intro a S
 refine qS (sz := 1) (us := [_]) S M 0 ?_; intro w4 M
 refine nxC (wp_seq (nxD (qG [1] S ?_))); intro a S
 refine qC (xs := [.tmp 35, .tmp 4]) S (qE Tryz.func76) rfl (superS_any (s := s) { y with inc := s.x.inc + 1 } hE M hup hw hm hy) ?_
 rintro _ w5 ⟨rfl, E2, hE2, M1⟩; refine ⟨_, rfl, ?_⟩; intro a S; have M := M1; clear M1
 refine qG [1] S ?_; intro a S
 refine nxA (qG [1, 1] S ?_); intro a S
 refine nxC (st_if (t := 38) S rfl ?_ ?_)
 ·intro h38 S
  exact absurd rfl h38
 intro h38 S
 refine st_condF S rfl (wp_skip (nxE (qR [1, 1, 4, 1, 1, 1, 1, 2, 1, 4] S M ?_))); intro a S
 refine st_store (sz := 1) (us := [_]) S M 1 rfl (by kernel_rfl) rfl rfl rfl rfl rfl rfl (by rw [shC_len hl]; exact (by decide : 5 ≤ 274)) ?_; intro w6 M
 simp only [putL, List.set_cons_zero, List.set_cons_succ, Nat.reduceAdd] at M
 refine qG [1, 2, 1, 1] S ?_; intro a S
 refine st_store (sz := 1) (us := [_]) S M 1 rfl (by kernel_rfl) rfl rfl rfl rfl rfl rfl (by rw [List.length_set, shC_len hl]; exact (by decide : 2 ≤ 274)) ?_; intro w7 M
 simp only [putL, List.set_cons_zero, List.set_cons_succ, Nat.reduceAdd] at M
 replace S := S.keep [0, 2, 3, 8, 15, 4, 5, 25, 6, 38]
 refine nxA (qR [4, 1, 1, 1] S M ?_); intro a S
 refine nxC (wp_ret (end_two S rfl (res_tmp rfl) (res_tmp rfl) ?_))
 rw [shC_begun] at M
 exact ⟨rfl, da, dc, lo, hi9, cs, es, E2, hE2, hBk, M.drop 0⟩
end Go.Proofs.YtkkcehcpffamkaaGreat

namespace Go.Proofs.YtkkcehcpffamkaaGreat
open Go.RowKit Go.Sort
def HomeZ (S : DS) : Prop := ∀ k, k < 8 → zerosB (S.get (26 + k)) = true
theorem put_get {S : DS} {g : Int} {bs : List UInt8} {k : Nat} (h : (k : Int) ≠ g) : (S.write g bs).flush.get k = S.get k := by
 rw [get_flush]
 refine get_same ?_ rfl
 show (if (k : Int) = g then _ else _) = _
 rw [if_neg h]
theorem HomeZ.put {S : DS} (h : HomeZ S) (t : Su) : HomeZ (S.write (t.gen % 2) (supS t)).flush := fun k hk => by
 rw [put_get (by omega)]; exact h k hk
theorem Disk0.first {t : Su} (ht : t.may) (hg : t.gen = 1) (hl : t.tail = 1) : Disk0 (DS.new.write (t.gen % 2) (supS t)).flush t [] 0 0 0 := by
 have hg2 : t.gen % 2 = 1 := by omega
 have hcw : ∀ k : Int, (DS.new.write (t.gen % 2) (supS t)).cache k = if k = 1 then [supS t] else [] := fun k => by rw [hg2]; rfl
 have hget : ∀ k : Nat, k ≠ 1 → (DS.new.write (t.gen % 2) (supS t)).flush.get k = durAt (List.replicate 2176 0) k := fun k hk => by
  rw [get_flush]
  unfold DS.get
  rw [hcw, if_neg (by omega)]; rfl
 refine ⟨rfl, fun _ _ => rfl, ⟨ht, ?_, fun k x hk hne hx => ?_⟩, ?_⟩
 ·rw [hg2]
  show (DS.new.write 1 (supS t)).flush.get 1 = supS t
  rfl
 ·obtain rfl : k = 0 := by
   have : (t.gen % 2).toNat = 1 := by omega
   rw [this] at hne; omega
  have e : secD (DS.new.write (t.gen % 2) (supS t)).flush 0 = durAt (List.replicate 2176 0) 0 := hget 0 (by omega)
  rw [e] at hx
  have e2 : durAt (List.replicate 2176 0) 0 = zero64 := durAt_zero 0 (by omega)
  rw [e2] at hx
  rw [supP_zero (by decide) (by decide)] at hx
  cases hx
 ·rw [hl]
  refine Phys.start (fun j hj => ⟨?_, rfl⟩) _ ⟨ht.2.2.2.2.2.2.2.1, ht.2.2.2.2.2.2.2.2.1⟩
  show (DS.new.write (t.gen % 2) (supS t)).flush.dur _ = zero64
  have e : (DS.new.write (t.gen % 2) (supS t)).flush.dur (2 + (1 + (j : Int)) % 24).toNat = (DS.new.write (t.gen % 2) (supS t)).flush.get (2 + (1 + (j : Int)) % 24).toNat := rfl
  rw [e, hget _ (by omega)]
  exact durS_new 1 j
theorem homeZ_new : HomeZ DS.new := home_new
def suM (m : Su) : Su := { m with gen := 1, tail := 1, owned := 0, inc := 0, bound := 1 }
def mapL (m : Su) : List Value := [.int .i64 m.m0, .int .i64 m.m1, .int .i64 m.m2, .int .i64 m.m3, .int .i64 m.m4, .int .i64 m.m5, .int .i64 m.m6, .int .i64 m.m7]
theorem mapL_at (m : Su) {k : Nat} (h : k < 8) : (mapL m)[k]? = some (.int .i64 (m.mAt k)) := by
 rcases lt8 h with rfl | rfl | rfl | rfl | rfl | rfl | rfl | rfl <;> rfl
theorem suM_may {m : Su} (h : m.mapOk) : (suM m).may :=
 ⟨fun k hk => by have := h k hk; rcases lt8 hk with rfl | rfl | rfl | rfl | rfl | rfl | rfl | rfl <;> exact this,
  (by decide : (0 : Int) ≤ 1), (by decide : (1 : Int) ≤ 1099511627776), (by decide : (1 : Int) ≤ 1), (by decide : (1 : Int) ≤ 1099511627776), (by decide : (0 : Int) ≤ 0), (by decide : (0 : Int) ≤ 255), (by decide : (0 : Int) ≤ 0), (by decide : (0 : Int) ≤ 1048576), (by decide : (1 : Int) ≤ 1), (by decide : (1 : Int) ≤ 1048577)⟩
def s1M (m : Su) : Ls := ⟨suM m, curOf (suM m), 1, []⟩
theorem LInv.first {m : Su} (h : m.mapOk) : LInv (DS.new.write ((suM m).gen % 2) (supS (suM m))).flush (s1M m) [] 0 := by
 refine ⟨[], 0, Disk0.first (suM_may h) rfl rfl, ⟨rfl, fun j p _ hp => (by simp at hp), fun k h1 h2 => ?_, Nat.zero_le 8⟩, rfl, fun p hp => (by simp at hp)⟩
 obtain rfl : k = 0 := by simpa using h2
 rfl
def suO (o : Int) : Su := { suFirst with gen := 1, owned := o }
theorem suO_may {o : Int} (h : 0 ≤ o ∧ o ≤ 255) : (suO o).may :=
 ⟨fun k hk => by rcases lt8 hk with rfl | rfl | rfl | rfl | rfl | rfl | rfl | rfl <;> exact (by decide : (0 : Int) ≤ 0 ∧ (0 : Int) ≤ 4),
  (by decide : (0 : Int) ≤ 1), (by decide : (1 : Int) ≤ 1099511627776), (by decide : (1 : Int) ≤ 1), (by decide : (1 : Int) ≤ 1099511627776), h.1, h.2, (by decide : (0 : Int) ≤ 0), (by decide : (0 : Int) ≤ 1048576), (by decide : (1 : Int) ≤ 1), (by decide : (1 : Int) ≤ 1048577)⟩
def shF (x : Su) (n : Int) : Sh := ⟨x, x.tail, n, List.replicate 32 zV8, 0, []⟩
abbrev shF0 (o : Int) : Sh := shF (suO o) 1
theorem begS_may {o : Int} (h : 0 ≤ o ∧ o ≤ 255) : (begSu (shF0 o) (suO o)).may :=
 ⟨fun k hk => by rcases lt8 hk with rfl | rfl | rfl | rfl | rfl | rfl | rfl | rfl <;> exact (by decide : (0 : Int) ≤ 0 ∧ (0 : Int) ≤ 4),
  (by decide : (0 : Int) ≤ 2), (by decide : (2 : Int) ≤ 1099511627776), (by decide : (1 : Int) ≤ 1), (by decide : (1 : Int) ≤ 1099511627776), h.1, h.2, (by decide : (0 : Int) ≤ 1), (by decide : (1 : Int) ≤ 1048576), (by decide : (1 : Int) ≤ 1), (by decide : (1 : Int) ≤ 1048577)⟩
end Go.Proofs.YtkkcehcpffamkaaGreat

namespace Go.Proofs.YtkkcehcpffamkaaGreat
open Go.RowKit Go.Sort
theorem cloneP_any (v : Value) (m : Nat) (cs : List Value) (w : World) (hv : Rd 0 w.heap.size w 6 v m cs) (hl : m ≤ 1000000) (h1 : allOne cs = true) : Calls Tryz.prog 88 #[v] w fun e w' => ∃ v', e = .returned v' ∧ Fresh w w' 199 6 v' m cs := by
 have M := Mem.start w
 refine calls_enter Tryz.func88 rfl 8 rfl rfl ?_; intro a S
 refine nxD (qG [1] S ?_); intro a S
 refine nxC (wp_seq (nxD (qG [1] S ?_))); intro a S
 refine qY S (y_eqlNil (e := 199) S rfl (M.arg hv) (by kernel_rfl)) ?_; intro a S
 refine nxC (st_split (t := 4) S rfl ?_ ?_)
 ·intro h4 S
  refine st_condT S rfl (nxD (qG [1] S ?_)); intro a S
  refine nxC (wp_ret (then_ret (end_one S rfl (res_tmp rfl) ?_)))
  obtain ⟨rfl, h0, h1⟩ := hv.nilV h4
  exact ⟨_, rfl, by rw [h1, h0]; exact M.freshNil _ _⟩
 intro h4 S
 refine st_condF S rfl (wp_skip (nxE (st_lit0 (e := 199) (sz := 6) (by_ := 64) (zc := [.int .i64 0, .int .i64 0, .int .i64 0, .slice none 0 0, .int .i64 0, .int .i64 0]) S M rfl rfl (by kernel_rfl) ?_))); intro a w1 b1 S M hB
 refine qG [1] S ?_; intro a S
 replace M := M.toRow (sz := 6) (m := 0) (cap := 0) (xs := []) 0 rfl rfl (Nat.le_refl _) (Nat.zero_le _) rfl rfl
 refine st_append (e := 199) (sz := 6) (by_ := 64) (zc := [.int .i64 0, .int .i64 0, .int .i64 0, .slice none 0 0, .int .i64 0, .int .i64 0]) S M 0 rfl rfl (by kernel_rfl) rfl (by decide) rfl rfl rfl (M.arg hv) (h1) (by omega) (by unfold maxLen; omega) ?_; intro a w2 vA loA hiA S M
 refine qG [1] S ?_; intro a S
 refine nxC (wp_ret (end_one S rfl (res_tmp rfl) ?_))
 exact ⟨_, rfl, by have := M.fresh 0 rfl; rwa [Nat.zero_add, List.nil_append] at this⟩
theorem putL_wr {p : Pr} {lv v' : Value} {ck rest : List Value} {k : Nat} (hk : ck.length = k * 6) : putL (ck ++ (p.cellsL lv ++ rest)) (k * 6 + 3) [v'] = (ck ++ p.cellsL v') ++ rest := by
 rw [putL_eq _ _ _ (by simp only [List.length_append, hk]; show _ ≤ k * 6 + (6 + _); simp; omega)]
 have e1 : (ck ++ (p.cellsL lv ++ rest)).take (k * 6 + 3) = ck ++ [.int .i64 p.name.stamp, .int .i64 p.name.inc, .int .i64 p.name.try_] := by
  rw [List.take_append, hk, List.take_of_length_le (by omega), Nat.add_sub_cancel_left]; rfl
 have e2 : (ck ++ (p.cellsL lv ++ rest)).drop (k * 6 + 3 + [v'].length) = [.int .i64 p.give, .int .i64 p.take] ++ rest := by
  rw [show k * 6 + 3 + [v'].length = ck.length + 4 by rw [hk]; rfl, List.drop_append, List.drop_of_length_le (by omega), List.nil_append, Nat.add_sub_cancel_left]; rfl
 rw [e1, e2]; simp
set_option maxHeartbeats 1000000 in
theorem copied11_any (da : Option Addr) (dc : Nat) (cs : List Value) (ps : Pl) (w : World) (hd : PrsC cs 0 w.heap.size w (.slice da ps.length dc) ps) (hps : ps.length ≤ 1000) (hws : ∀ (i : Nat) (q : Pr × List Wr), ps[i]? = some q → q.2.length ≤ 1000000) (hcl : cs.length = ps.length * 6) (h1 : allOne cs = true) :
 Calls Tryz.prog 56 #[.slice da ps.length dc] w fun e w' => ∃ (ra : Option Addr) (rc lo hi : Nat) (cs2 : List Value) (es2 : List Ent), e = .returned (.slice ra ps.length rc) ∧ Mem w w' (rowE lo hi 199 6 (.slice ra ps.length rc) ps.length cs2 :: es2) ∧ PrBk cs2 ps es2 := by
 have M := Mem.start w
 refine calls_enter Tryz.func56 rfl 24 rfl rfl ?_; intro a S
 refine nxD (qG [1] S ?_); intro a S
 refine nxA (qG [1] S ?_); intro a S
 refine qC (xs := [.tmp 5]) S (qE Tryz.func88) rfl (cloneP_any _ ps.length cs _ (M.argW hd.1) (by omega) h1) ?_
 rintro _ w1 ⟨v2, rfl, hF⟩; refine ⟨_, rfl, ?_⟩; intro a S
 obtain ⟨lo, hi, -, M1⟩ := M.pushFresh hF; clear M; have M := M1; clear M1
 obtain ⟨ra, rc, rfl, -, -⟩ := (M.readAll 0 rfl (by unfold maxLen; omega)).form
 refine qG [1] S ?_; intro a S
 refine nxC (wp_seq (nxD (qG [1] S ?_))); intro a S
 refine qY S (y_lenS (E := 199) S rfl (by kernel_rfl)) ?_; intro a S
 refine qG [1] S ?_; intro a S
 refine nxC (wp_block (wp_loop_g (fun m a w' => ∃ (k : Nat) (ck : List Value) (es : List Ent) (lo hi : Nat), k ≤ ps.length ∧ m = ps.length - k ∧ PrBk ck (ps.take k) es ∧ Sees 24 a [(3, .slice ra ps.length rc), (8, .int .i64 (ps.length : Int)), (9, .int .i64 (k : Int))] ∧ Mem w w' (rowE lo hi 199 6 (.slice ra ps.length rc) ps.length (ck ++ cs.drop (k * 6)) :: es)) (ps.length) ?_ ?_))
 ·skip
  exact ⟨0, [], [], lo, hi, Nat.zero_le _, rfl, PrBk.nil, S.sub _ rfl, by rw [Nat.zero_mul, List.drop_zero]; exact M⟩
 intro m a wl
 rintro ⟨k, ck, es, lo, hi, hk, rfl, hBk, S, M⟩
 refine nxD (qG [1] S ?_); intro a S
 refine nxC (wp_seq (st_fi (t := 10) S rfl ?_ ?_))
 ·intro h10 S
  refine st_condF S rfl (wp_exit (then_exit (then_exit (block_hit (nxE (qG [1, 1] S ?_)))))); intro a S
  refine nxC (wp_ret (end_one S rfl (res_tmp rfl) ?_))
  obtain rfl : k = ps.length := by omega
  rw [List.take_length] at hBk
  rw [List.drop_of_length_le (by omega), List.append_nil] at M
  exact ⟨ra, rc, lo, hi, ck, es, rfl, M, hBk⟩
 intro h10 S
 refine st_condT S rfl (wp_skip (then_normal (wp_seq (wp_block (nxD (qG [1, 1] S ?_)))))); intro a S
 refine nxC ?_
 have hk' : k < ps.length := by omega
 obtain ⟨q, hq⟩ : ∃ q, ps[k]? = some q := ⟨_, List.getElem?_eq_getElem hk'⟩
 obtain ⟨ad, cp, hrow, hw⟩ := hd.sl hq
 have hck : ck.length = k * 6 := by rw [hBk.1, List.length_take, Nat.min_eq_left hk]
 have hdr : cs.drop (k * 6) = q.1.cellsL (.slice ad q.2.length cp) ++ cs.drop ((k + 1) * 6) := by
  rw [← hrow, show (k + 1) * 6 = k * 6 + 6 by omega, ← List.drop_drop, List.take_append_drop]
 have hrl : (ck ++ cs.drop (k * 6)).length = ps.length * 6 := by rw [List.length_append, hck, List.length_drop, hcl]; omega
 have hrow2 : ((ck ++ cs.drop (k * 6)).drop (k * 6)).take 6 = q.1.cellsL (.slice ad q.2.length cp) := by
  rw [List.drop_append_of_le_length (by omega), List.drop_of_length_le (by omega), List.nil_append]; exact hrow
 refine wp_region_lit (qG [1, 1, 1, 1] S ?_); intro a S
 refine qY S (y_indexR (e := 199) (sz := 6) S (by kernel_rfl) rfl ((M.readAll 0 rfl (by unfold maxLen; omega))) rfl (by first | omega | (simp; done) | (simp; omega))) ?_; intro a S
 try simp only [Int.toNat_natCast, Nat.mul_one, Nat.zero_add] at S
 refine qG [4] S ?_; intro a S
 refine qY S (y_load S (by kernel_rfl) rfl (((M.readAll 0 rfl (by unfold maxLen; omega)).at_.row (i := k) hrow2 rfl) 3 (by show 3 < 6; omega))) ?_; intro a S
 refine qC (xs := [.tmp 18]) S (qE Tryz.func89) rfl (cloneW_any _ q.2 _ (M.argW hw) (hws k q hq)) ?_
 rintro _ w2 ⟨v3, rfl, hF⟩; refine ⟨_, rfl, ?_⟩; intro a S
 obtain ⟨wa, wcp, rfl, -, -⟩ := (hF.rd (by have := hws k q hq; unfold maxLen; omega)).form
 obtain ⟨lo1, hi1, -, M1⟩ := M.pushFresh hF; clear M; have M := M1; clear M1
 refine qY S (y_indexR (e := 199) (sz := 6) S (by kernel_rfl) rfl ((M.readAll 1 rfl (by unfold maxLen; omega))) rfl (by first | omega | (simp; done) | (simp; omega))) ?_; intro a S
 try simp only [Int.toNat_natCast, Nat.mul_one, Nat.zero_add] at S
 refine qG [4] S ?_; intro a S
 refine st_storeRow (v := .slice ra ps.length rc) (sz := 6) (m := ps.length) (j := k * 6 + 3) (us := [.slice wa q.2.length wcp]) S M 1 rfl (by kernel_rfl) rfl rfl (by first | rfl | omega | (simp only [Int.toNat_natCast]; omega)) rfl rfl rfl rfl rfl (by omega) hrl (by rw [hrl]; show k * 6 + 3 + 1 ≤ _; omega) ?_; intro wz lo9 hi9 M
 simp only [List.eraseIdx_cons_succ, List.eraseIdx_cons_zero] at M
 rw [hdr, putL_wr hck] at M
 refine wpList_nil (block_normal (nxF ?_))
 (first | refine qY S (y_addN S rfl rfl (by omega)) ?_ | refine qY S (y_int S rfl rfl rfl) ?_); intro a S
 refine qG [1] S ?_; intro a S
 refine nxC ?_
 skip
 have hB2 := hBk.more (q := q) (ad := wa) (cp := wcp) (lo := lo1) (hi := hi1) (hws k q hq)
 rw [← take_snocP hq] at hB2
 exact ⟨ps.length - (k + 1), by omega, k + 1, _, _, lo9, hi9, by omega, rfl, hB2, S.sub _ rfl, M⟩
set_option maxHeartbeats 1000000 in
set_option maxRecDepth 10000 in
theorem doubt11_any {wc w : World} {H : List Ent} {b bd : Nat} {s : Sh} {da : Option Addr} {dc : Nat} {cs : List Value} {es : List Ent} (M : Mem wc w (shE b bd s (.slice da s.ps.length dc) :: H)) (hd : ∀ W pre, Mem wc W (pre ++ (shE b bd s (.slice da s.ps.length dc) :: H)) → PrsC cs 0 W.heap.size W (.slice da s.ps.length dc) s.ps) (hBk : PrBk cs s.ps es) (hl : s.h.length = 32) (hps : s.ps.length ≤ 24) :
 Calls Tryz.prog 109 #[pB b] w fun e w' => ∃ (ra : Option Addr) (rc lo hi : Nat) (cs2 : List Value) (es2 : List Ent), e = .returned (.slice ra s.ps.length rc) ∧ PrBk cs2 s.ps es2 ∧ Mem wc w' (rowE lo hi 199 6 (.slice ra s.ps.length rc) s.ps.length cs2 :: (es2 ++ (shE b bd s (.slice da s.ps.length dc) :: H))) := by
 refine calls_enter Tryz.func109 rfl 11 rfl rfl ?_; intro a S
 refine wp_seq ?_
 skip
 refine wp_region_lit (qG [1] S ?_); intro a S
 refine nxC (wp_seq (nxD (qG [1] S ?_))); intro a S
 refine qY S (y_eqlPS (by kernel_rfl) S rfl) ?_; intro a S
 refine nxC (st_condF S rfl (wp_skip (nxE (qG [1, 1, 2, 272] S ?_)))); intro a S
 refine qY S (y_load S (by kernel_rfl) rfl (M.cell 0 rfl (shC_doubt hl))) ?_; intro a S
 refine qC (xs := [.tmp 9]) S (qE Tryz.func56) rfl (copied11_any da dc cs s.ps _ (hd _ [] M) (by omega) hBk.short hBk.1 hBk.2.1) ?_
 rintro _ w1 ⟨ra, rc, lo2, hi2, cs2, es2, rfl, M2, hB2⟩; refine ⟨_, rfl, ?_⟩; intro a S
 replace M := M.join M2
 refine qG [1] S ?_; intro a S
 refine nxC (wp_ret (end_one S rfl (res_tmp rfl) ?_))
 exact ⟨ra, rc, lo2, hi2, cs2, es2, rfl, hB2, M⟩
end Go.Proofs.YtkkcehcpffamkaaGreat

namespace Go.Proofs.YtkkcehcpffamkaaGreat
open Go.RowKit Go.Sort
theorem shC_k {bd : Nat} {s : Sh} {dv : Value} (hl : s.h.length = 32) : (shC bd s dv).toArray[273]? = some (.int .i64 s.k) := by
 have h0 := stX_ok s.x s.a s.n s.k hl
 rw [List.getElem?_toArray]
 unfold shC
 rw [List.getElem?_append_right (by show 1 ≤ 273; omega), List.append_nil]
 show (s.st.cellsL dv)[272]? = _
 unfold St.cellsL
 rw [List.getElem?_append_right (by rw [St.pre_len h0]; omega), St.pre_len h0, List.getElem?_append_right (by rw [h0.hl]; omega), h0.hl]; rfl
def Sh.owned_ (s : Sh) (y : Su) (o : Int) : Sh := { s with x := { s.x with owned := o, gen := y.gen + 1 } }
def ownSu (y : Su) (o : Int) : Su := { y with owned := o, gen := y.gen + 1 }
theorem shC_owned (bd : Nat) (s : Sh) (y : Su) (o : Int) (dv : Value) : ((shC bd s dv).set 3 (.int .i64 o)).set 1 (.int .i64 (y.gen + 1)) = shC bd (s.owned_ y o) dv := rfl
set_option maxHeartbeats 1000000 in
theorem own11_any {wc w : World} {A : List Ent} {b bd : Nat} {s : Sh} {S0 : DS} (y : Su) (o : Int) (ho : 0 ≤ o ∧ o ≤ 255) (hk : s.k = 0) (hM : ShM wc w A b bd s S0) (hup : S0.down = false) (hw : ∀ k, (S0.cache k).length ≤ 1000) (hg : gsR (secD S0) = (y, 0)) (hm : (ownSu y o).may) (hy : 0 ≤ y.gen) (hl : s.h.length = 32) :
 Calls Tryz.prog 41 #[pB b, .int .i64 o] w fun e w' => e = .returned (.int .i64 0) ∧ ShM wc w' A b bd (s.owned_ y o) (S0.write ((y.gen + 1) % 2) (supS (ownSu y o))).flush := by
 obtain ⟨da, dc, lo, hi9, cs, es, E, hE, hBk, M⟩ := hM
 refine calls_enter Tryz.func41 rfl 55 rfl rfl ?_; intro a S
 refine wp_seq ?_
 skip
 refine wp_region_lit (qG [1] S ?_); intro a S
 refine nxC (wp_seq (nxD (qG [1] S ?_))); intro a S
 refine qY S (y_eqlPS (by kernel_rfl) S rfl) ?_; intro a S
 refine nxC (st_condF S rfl (wp_skip (then_normal (wp_seq (nxD (qG [1, 1, 1] S ?_)))))); intro a S
 refine st_if (t := 12) S rfl ?_ ?_
 ·intro h12 S
  exfalso; omega
 intro h12 S
 refine qG [1, 1, 1, 1] S ?_; intro a S
 refine st_if (t := 16) S rfl ?_ ?_
 ·intro h16 S
  exfalso; first | omega | (simp at h16; omega)
 intro h16 S
 refine qG [1, 1, 2, 273] S ?_; intro a S
 refine qY S (y_load S (by kernel_rfl) rfl (M.cell 0 rfl (shC_k hl))) ?_; intro a S
 refine qG [1, 1] S ?_; intro a S
 replace S := S.keep [0, 1, 4, 9, 23]
 refine nxC (st_if (t := 23) S rfl ?_ ?_)
 ·intro h23 S
  first | exact absurd hk h23 | (exfalso; simp at h23; omega)
 intro h23 S
 refine st_condF S rfl (wp_skip (nxE (qG [1, 1, 1] S ?_))); intro a S
 refine qY S (y_load S (by kernel_rfl) rfl (M.cell 0 rfl (shC_d _ _ _))) ?_; intro a S
 refine qC (xs := [.tmp 28]) S (qE Tryz.func75) rfl (getH_any (A := _ :: _ :: (es ++ A)) hE (by simpa only [List.cons_append, List.append_assoc] using M) hup (fun k => by have := hw k; omega)) ?_
 rintro _ w1 ⟨rfl, M1⟩; refine ⟨_, rfl, ?_⟩; intro a S; have M := M1; clear M1
 simp only [List.cons_append, List.append_assoc] at M
 rw [hg] at S
 refine qG [1, 1, 1] S ?_; intro a S
 refine st_alloc S M rfl rfl #[.int .i64 0, .int .i64 0, .int .i64 0, .int .i64 0, .int .i64 0, .int .i64 0, .int .i64 0, .int .i64 0, .int .i64 0, .int .i64 0, .int .i64 0, .int .i64 0, .int .i64 0] (by kernel_rfl) ?_; intro a w2 bO S M hB
 refine qS (sz := 13) (us := [_, _, _, _, _, _, _, _, _, _, _, _, _]) S M 0 ?_; intro w3 M
 refine qG [1] S ?_; intro a S
 refine nxC (wp_seq (nxD (qG [1, 1] S ?_))); intro a S
 refine nxC (st_if (t := 33) S rfl ?_ ?_)
 ·intro h33 S
  exact absurd rfl h33
 intro h33 S
 refine st_condF S rfl (wp_skip (nxE (qG [1, 3] S ?_))); intro a S
 refine qS (sz := 1) (us := [_]) S M 0 ?_; intro w4 M
 refine nxC (wp_seq (nxD (qG [1] S ?_))); intro a S
 refine qC (xs := [.tmp 37, .tmp 5]) S (qE Tryz.func76) rfl (superS_any (s := s) { y with owned := o } hE M hup hw hm hy) ?_
 rintro _ w5 ⟨rfl, E2, hE2, M1⟩; refine ⟨_, rfl, ?_⟩; intro a S; have M := M1; clear M1
 refine qG [1] S ?_; intro a S
 refine nxA (qG [1, 1] S ?_); intro a S
 replace S := S.keep [0, 1, 4, 9, 23, 5, 6, 33, 7, 40]
 refine nxC (st_if (t := 40) S rfl ?_ ?_)
 ·intro h40 S
  exact absurd rfl h40
 intro h40 S
 refine st_condF S rfl (wp_skip (nxE (qR [1, 1, 1, 1, 1, 1, 2, 1, 3] S M ?_))); intro a S
 refine st_store (sz := 1) (us := [_]) S M 1 rfl (by kernel_rfl) rfl rfl rfl rfl rfl rfl (by rw [shC_len hl]; exact (by decide : 4 ≤ 274)) ?_; intro w6 M
 simp only [putL, List.set_cons_zero, List.set_cons_succ, Nat.reduceAdd] at M
 refine qG [1, 2, 1, 1] S ?_; intro a S
 refine st_store (sz := 1) (us := [_]) S M 1 rfl (by kernel_rfl) rfl rfl rfl rfl rfl rfl (by rw [List.length_set, shC_len hl]; exact (by decide : 2 ≤ 274)) ?_; intro w7 M
 simp only [putL, List.set_cons_zero, List.set_cons_succ, Nat.reduceAdd] at M
 refine nxA (qG [1] S ?_); intro a S
 replace S := S.keep [0, 1, 9, 23, 5, 6, 33, 7, 40, 4]
 refine nxC (wp_ret (end_one S rfl (res_tmp rfl) ?_))
 rw [shC_owned] at M
 exact ⟨rfl, da, dc, lo, hi9, cs, es, E2, hE2, hBk, M.drop 0⟩
set_option maxHeartbeats 1000000 in
set_option maxRecDepth 10000 in
theorem shOpenF_any {wc w : World} {A E : List Ent} {bd : Nat} {S0 : DS} (x : Su) (n : Int) (hE : DkE bd S0 E) (M : Mem wc w (A ++ E)) (hup : S0.down = false) (hw : ∀ k, (S0.cache k).length ≤ 1000000) (hz : HomeZ S0) (hg : gsR (secD S0) = (x, 0)) (hl : (scanG S0 x.tail).l = []) (hn : (scanG S0 x.tail).next = n) :
 Calls Tryz.prog 40 #[pB bd] w fun e w' => ∃ b, e = .returned (.tuple #[pB b, .int .i64 0]) ∧ ShM wc w' A b bd (shF x n) S0 := by
 have hok : (shF x n).st.ok := stX_ok _ _ _ _ rfl
 refine calls_enter Tryz.func40 rfl 20 rfl rfl ?_; intro a S
 refine nxD (qG [1, 1] S ?_); intro a S
 refine nxC (wp_seq (nxD (qG [1] S ?_))); intro a S
 refine qY S (y_eqlPS (by kernel_rfl) S rfl) ?_; intro a S
 refine nxC (st_condF S rfl (wp_skip (nxE (qG [1] S ?_)))); intro a S
 refine qC (xs := [.tmp 9]) S (qE Tryz.func74) rfl (openF_any x [] hE M hup hw hz hg (by rw [hl]; exact Recs.nil)) ?_
 rintro _ w1 ⟨s2, ps2, da, dc, lo, hi, cs, es, rfl, M1, hBk, hs2, hp2, hfo⟩; refine ⟨_, rfl, ?_⟩; intro a S; have M := M1; clear M1
 obtain ⟨rfl, rfl⟩ : s2 = (shF x n).st ∧ ps2 = [] := by
  rw [hn] at hfo
  exact ⟨(congrArg Prod.fst hfo).symm, (congrArg Prod.snd hfo).symm⟩
 refine qG [1, 1, 1] S ?_; intro a S
 refine st_alloc S M rfl rfl (zSt.cellsL (.slice none 0 0)).toArray (by kernel_rfl) ?_; intro a w2 bW S M hB
 refine st_storeAll (sz := 273) S M 0 rfl (by kernel_rfl) rfl rfl (by with_reducible first | exact St.len hok _ | exact St.len zSt_ok _ | exact shC_len (s := shF x n) rfl | exact zShC_len) (by with_reducible first | exact St.one hok _ rfl | exact St.one zSt_ok _ rfl) rfl (by with_reducible first | exact St.len hok _ | exact St.len zSt_ok _ | exact shC_len (s := shF x n) rfl | exact zShC_len) ?_; intro w3 M
 simp only [List.set_cons_zero, List.set_cons_succ] at M
 refine qG [1] S ?_; intro a S
 refine nxC (wp_seq (nxD (qG [1, 1] S ?_))); intro a S
 refine nxC (st_if (t := 14) S rfl ?_ ?_)
 ·intro h14 S
  exact absurd rfl h14
 intro h14 S
 refine st_condF S rfl (wp_skip (nxE (qG [1] S ?_))); intro a S
 refine qY S (y_loadAgg (k := 273) (cs := _) S (by kernel_rfl) rfl (by with_reducible first | exact St.len hok _ | exact St.len zSt_ok _ | exact shC_len (s := shF x n) rfl | exact zShC_len) (M.cellsAt 0 rfl cutL_all)) ?_; intro a S
 refine qY S (y_build (ps := [(0, .tmp 16), (1, .tmp 17)]) (pl := [(0, 1), (1, 273)]) (z := zShC) (cs := shC bd (shF x n) (.slice da ([] : Pl).length dc)) S (by kernel_rfl) rfl (fill_sh bd (shF x n) _ rfl)) ?_; intro a S
 refine st_box S M rfl rfl rfl _ rfl ?_; intro a w4 bX S M hB
 refine qG [1, 1] S ?_; intro a S
 refine nxC (wp_ret (end_two S rfl (res_tmp rfl) (res_tmp rfl) ?_))
 skip
 replace M := M.drp 1
 exact ⟨bX, rfl, da, dc, lo, hi, cs, es, E, hE, hBk, M⟩
end Go.Proofs.YtkkcehcpffamkaaGreat

namespace Go.Proofs.YtkkcehcpffamkaaGreat
open Go.RowKit Go.Sort
theorem thereK_any (n : Int) (hn : 0 ≤ n ∧ n ≤ 4) (w : World) : Calls Tryz.prog 155 #[.int .i64 n] w fun e w' => e = .returned (.bool true) ∧ Below w.heap.size w w' := by
 have M := Mem.start w
 refine calls_enter Tryz.func155 rfl 9 rfl rfl ?_; intro a S
 refine nxD (qG [1] S ?_); intro a S
 refine nxA (qG [1, 1, 1] S ?_); intro a S
 refine st_if (t := 5) S rfl ?_ ?_
 ·intro h5 S
  refine qG [1, 1, 1, 1] S ?_; intro a S
  refine nxC (wp_ret (end_one S rfl (res_tmp rfl) ?_))
  refine ⟨ret_bool ?_, M.below⟩; first | (simp; done) | (simp; omega)
 intro h5 S
 refine qG [0, 0, 1, 1] S ?_; intro a S
 refine nxC (wp_ret (end_one S rfl (res_tmp rfl) ?_))
 refine ⟨ret_bool ?_, M.below⟩; first | (simp; done) | (simp; omega)
def knL (n i : Int) : List Value := [.int .i64 n, .int .i64 i, .int .i64 0, .int .i64 0, .int .i64 0, .int .i64 0, .int .i64 0]
theorem z5_at {j : Nat} (h : j < 5) : [Value.int .i64 0, .int .i64 0, .int .i64 0, .int .i64 0, .int .i64 0][((j : Int)).toNat * 1]? = some (.int .i64 0) := by
 rw [Int.toNat_natCast, Nat.mul_one]
 have h5 : j = 0 ∨ j = 1 ∨ j = 2 ∨ j = 3 ∨ j = 4 := by omega
 rcases h5 with rfl | rfl | rfl | rfl | rfl <;> rfl
theorem mayKz_any (n i : Int) (hn : 0 ≤ n ∧ n ≤ 4) (hi : 1 ≤ i ∧ i ≤ 1048576) (w : World) : Calls Tryz.prog 102 #[.agg #[.int .i64 n, .int .i64 i, .int .i64 0, .int .i64 0, .int .i64 0, .int .i64 0, .int .i64 0]] w fun e w' => e = .returned (.bool true) ∧ Below w.heap.size w w' := by
 have M := Mem.start w
 refine calls_enter Tryz.func102 rfl 31 rfl rfl ?_; intro a S
 refine nxD (st_box S M rfl rfl rfl #[_, _, _, _, _, _, _] rfl ?_); intro a w1 b1 S M hB
 refine qG [1] S ?_; intro a S
 refine nxC (wp_seq (nxD (qR [1, 1] S M ?_))); intro a S
 refine qQ (xs := [.tmp 6]) S (qE Tryz.func155) rfl (thereK_any _ hn _) M ?_; intro a w2 S hK M
 refine qG [1, 1] S ?_; intro a S
 refine st_if (t := 9) S rfl ?_ ?_
 ·intro h9 S
  cases h9
 intro h9 S
 refine qR [2, 1, 1, 1, 1] S M ?_; intro a S
 refine st_if (t := 14) S rfl ?_ ?_
 ·intro h14 S
  exfalso; omega
 intro h14 S
 refine qR [2, 1, 1, 1] S M ?_; intro a S
 refine nxC (st_if (t := 18) S rfl ?_ ?_)
 ·intro h18 S
  exfalso; first | omega | (simp at h18; omega)
 intro h18 S
 refine st_condF S rfl (wp_skip (then_normal (wp_seq (nxD (qG [3] S ?_))))); intro a S
 refine qY S (y_loadAgg (cs := [_, _, _, _, _]) S (by kernel_rfl) rfl rfl (M.cellsAt (k := 5) 0 rfl rfl)) ?_; intro a S
 refine qG [1] S ?_; intro a S
 replace S := S.keep [0, 1, 2, 18, 20, 21]
 refine nxC (wp_block (wp_loop_g (fun q a w' => ∃ (j : Nat), j ≤ 5 ∧ q = 5 - j ∧ Sees 31 a [(20, .agg #[.int .i64 0, .int .i64 0, .int .i64 0, .int .i64 0, .int .i64 0]), (21, .int .i64 (j : Int))] ∧ Mem w w' []) (5) ?_ ?_))
 ·skip
  exact ⟨0, by omega, rfl, S.sub _ rfl, M.drop 0⟩
 intro m a wl
 rintro ⟨j, hj, rfl, S, M⟩
 refine nxD (qG [1] S ?_); intro a S
 refine nxC (wp_seq (st_fi (t := 22) S rfl ?_ ?_))
 ·intro h22 S
  refine st_condF S rfl (wp_exit (then_exit (then_exit (block_hit (nxE (qG [1] S ?_)))))); intro a S
  refine nxC (wp_ret (end_one S rfl (res_tmp rfl) ?_))
  exact ⟨rfl, M.below⟩
 intro h22 S
 refine st_condT S rfl (wp_skip (then_normal (wp_seq (wp_block (nxD (qY S (y_indexP (m := 5) (sz := 1) S (by kernel_rfl) (fun e he => by cases he.symm.trans (show _ = some (.array 5 3) by kernel_rfl); kernel_rfl) rfl rfl (by first | omega | (simp; done) | (simp; omega)) (z5_at (by omega))) ?_)))))); intro a S
 refine qG [1] S ?_; intro a S
 refine nxA (qG [1, 1, 1] S ?_); intro a S
 refine st_if (t := 26) S rfl ?_ ?_
 ·intro h26 S
  exact absurd h26 (by decide)
 intro h26 S
 refine qG [1, 1, 1] S ?_; intro a S
 refine nxC (st_if (t := 29) S rfl ?_ ?_)
 ·intro h29 S
  exact absurd h29 (by decide)
 intro h29 S
 refine st_condF S rfl (wp_skip (block_normal (nxF ?_)))
 (first | refine qY S (y_addN S rfl rfl (by omega)) ?_ | refine qY S (y_int S rfl rfl rfl) ?_); intro a S
 refine qG [1] S ?_; intro a S
 refine nxC ?_
 exact ⟨5 - (j + 1), by omega, j + 1, by omega, rfl, S.sub _ rfl, M⟩
theorem newKz_any (n i : Int) (hn : 0 ≤ n ∧ n ≤ 4) (hi : 1 ≤ i ∧ i ≤ 1048576) (w : World) : Calls Tryz.prog 73 #[.int .i64 n, .int .i64 i] w fun e w' => e = .returned (.tuple #[.agg (knL n i).toArray, .int .i64 0]) ∧ Below w.heap.size w w' := by
 have M := Mem.start w
 refine calls_enter Tryz.func73 rfl 15 rfl rfl ?_; intro a S
 refine nxD (st_alloc S M rfl rfl #[.int .i64 0, .int .i64 0, .int .i64 0, .int .i64 0, .int .i64 0, .int .i64 0, .int .i64 0] (by kernel_rfl) ?_); intro a w1 b1 S M hB
 refine qG [1] S ?_; intro a S
 refine nxA (qG [1, 1] S ?_); intro a S
 refine qY S (y_build (ps := [(0, .tmp 7), (1, .tmp 8)]) (pl := [(0, 1), (1, 1), (2, 5)]) (z := [.int .i64 0, .int .i64 0, .int .i64 0, .int .i64 0, .int .i64 0, .int .i64 0, .int .i64 0]) (cs := [_, _, _, _, _, _, _]) S (by kernel_rfl) rfl (rfl)) ?_; intro a S
 refine st_alloc S M rfl rfl #[.int .i64 0, .int .i64 0, .int .i64 0, .int .i64 0, .int .i64 0, .int .i64 0, .int .i64 0] (by kernel_rfl) ?_; intro a w2 b2 S M hB
 refine qS (sz := 7) (us := [_, _, _, _, _, _, _]) S M 0 ?_; intro w3 M
 refine nxC (wp_seq (nxD (qY S (y_loadAgg (cs := [_, _, _, _, _, _, _]) S (by kernel_rfl) rfl rfl (M.cellsAt (k := 7) 0 rfl rfl)) ?_))); intro a S
 refine qQ (xs := [.tmp 10]) S (qE Tryz.func102) rfl (mayKz_any n i hn hi _) M ?_; intro a w4 S hK M
 refine qG [1] S ?_; intro a S
 refine nxC (st_if (t := 12) S rfl ?_ ?_)
 ·intro h12 S
  cases h12
 intro h12 S
 refine st_condF S rfl (wp_skip (nxE (qY S (y_loadAgg (cs := [_, _, _, _, _, _, _]) S (by kernel_rfl) rfl rfl (M.cellsAt (k := 7) 0 rfl rfl)) ?_))); intro a S
 refine qS (sz := 7) (us := [_, _, _, _, _, _, _]) S M 1 ?_; intro w5 M
 refine qG [1] S ?_; intro a S
 refine nxC (wp_ret (end_two S rfl (res_agg (cs := [_, _, _, _, _, _, _]) (by kernel_rfl) rfl rfl (M.cellsAt (k := 7) 1 rfl rfl)) (res_tmp rfl) ?_))
 exact ⟨rfl, M.below⟩
theorem newP_any {wc w : World} {A : List Ent} {b bd : Nat} {s : Sh} {S0 : DS} (hM : ShM wc w A b bd s S0) (hl : s.h.length = 32) (hps : s.ps = []) :
 Calls Tryz.prog 78 #[pB b] w fun e w' => e = .returned (.tuple #[.agg #[.slice none 0 0, .slice none 0 0, .slice none 0 0, .slice none 0 0], .int .i64 0]) ∧ ShM wc w' A b bd s S0 := by
 obtain ⟨da, dc, lo, hi9, cs, es, E, hE, hBk, M⟩ := hM
 have hp24 : s.ps.length ≤ 24 := by rw [hps]; decide
 refine calls_enter Tryz.func78 rfl 49 rfl rfl ?_; intro a S
 refine wp_seq ?_
 skip
 refine wp_region_lit (st_alloc S M rfl rfl #[.slice none 0 0, .slice none 0 0, .slice none 0 0, .slice none 0 0] (by kernel_rfl) ?_); intro a w1 bR S M hB
 refine qG [1] S ?_; intro a S
 refine nxC (wp_seq (nxD (qG [1] S ?_))); intro a S
 refine qY S (y_eqlPS (by kernel_rfl) S rfl) ?_; intro a S
 refine nxC (st_condF S rfl (wp_skip (nxE (st_alloc S M rfl rfl #[.slice none 0 0, .slice none 0 0, .slice none 0 0, .slice none 0 0] (by kernel_rfl) ?_)))); intro a w2 bP S M hB
 refine nxC (wp_seq (nxD (qG [1] S ?_))); intro a S
 skip
 replace M := M.frn 2
 refine qC (xs := [.tmp 13]) S (qE Tryz.func109) rfl (doubt11_any M (fun W pre h => (hBk.prs h (List.mem_append_right _ (.tail _ (.tail _ (.tail _ (.head _))))) (fun e he => List.mem_append_right _ (.tail _ (.tail _ (.tail _ (.tail _ (List.mem_append_left _ he)))))) (by unfold maxLen; omega)).wide (Nat.zero_le _) (Nat.le_refl _)) hBk hl hp24) ?_
 rintro _ w3 ⟨ra, rc, lo2, hi2, cs2, es2, rfl, hB2, M2⟩; refine ⟨_, rfl, ?_⟩; intro a S
 replace M := M2.sub (.cons _ (List.sublist_append_right _ _))
 clear M2 hB2
 refine qY S (y_lenS (E := 199) S rfl (by kernel_rfl)) ?_; intro a S
 refine qG [1] S ?_; intro a S
 refine nxC (wp_block (wp_loop_g (fun q a w' => q = 0 ∧ Sees 49 a [(2, pB bR), (4, pB bP), (14, .slice ra s.ps.length rc), (15, .int .i64 (s.ps.length : Int)), (16, .int .i64 0)] ∧ Mem wc w' (shE b bd s (.slice da s.ps.length dc) :: .blk bP #[.slice none 0 0, .slice none 0 0, .slice none 0 0, .slice none 0 0] 128 :: .blk bR #[.slice none 0 0, .slice none 0 0, .slice none 0 0, .slice none 0 0] 128 :: rowE lo hi9 199 6 (.slice da s.ps.length dc) s.ps.length cs :: (es ++ (A ++ E)))) (0) ?_ ?_))
 ·skip
  exact ⟨rfl, S.sub _ rfl, M⟩
 intro m a wl
 rintro ⟨rfl, S, M⟩
 refine nxD (qG [1] S ?_); intro a S
 refine nxC (wp_seq (st_if (t := 17) S rfl ?_ ?_))
 ·intro h17 S
  exfalso; rw [hps] at h17; simp at h17
 intro h17 S
 refine st_condF S rfl (wp_exit (then_exit (then_exit (block_hit (nxE (qY S (y_loadAgg (cs := [_, _, _, _]) S (by kernel_rfl) rfl rfl (M.cellsAt (k := 4) 1 rfl rfl)) ?_)))))); intro a S
 refine qS (sz := 4) (us := [_, _, _, _]) S M 2 ?_; intro w4 M
 refine qG [1] S ?_; intro a S
 refine nxC (wp_ret (end_two S rfl (res_agg (cs := [_, _, _, _]) (by kernel_rfl) rfl rfl (M.cellsAt (k := 4) 2 rfl rfl)) (res_tmp rfl) ?_))
 exact ⟨rfl, da, dc, lo, hi9, cs, es, E, hE, hBk, M.sub (.cons_cons _ (.cons _ (.cons _ (List.Sublist.refl _))))⟩
abbrev siteC (self : Int) (up : Bool) (bd : Nat) (st : Value) (k i : Int) : List Value := [.int .i64 self, .bool up, pB bd, st, .slice none 0 0, .slice none 0 0, .slice none 0 0, .slice none 0 0, .int .i64 k, .int .i64 i, .int .i64 0, .int .i64 0, .int .i64 0, .int .i64 0, .int .i64 0]
def shN (o : Int) : Sh := (shF0 o).begun (suO o)
set_option maxHeartbeats 1000000 in
theorem siteOpen_any {wc w : World} {A E : List Ent} {b bd : Nat} (self o : Int) (hs : 1 ≤ self ∧ self ≤ 4) (ho : 0 ≤ o ∧ o ≤ 255) (hE : DkE bd (DS.new.write ((suO o).gen % 2) (supS (suO o))).flush E)
 (M : Mem wc w (.blk b (siteC self false bd (.pointer none) 0 0).toArray 130 :: (A ++ E))) :
 Calls Tryz.prog 42 #[pB b] w fun e w' => e = .returned (.int .i64 0) ∧ ∃ bs S1, ShM wc w' (.blk b (siteC self true bd (pB bs) self 1).toArray 130 :: A) bs bd (shN o) S1 := by
 have hD := Disk0.first (suO_may ho) rfl rfl
 have hz := homeZ_new.put (suO o)
 obtain ⟨S0, hS0⟩ : ∃ S0, (DS.new.write ((suO o).gen % 2) (supS (suO o))).flush = S0 := ⟨_, rfl⟩
 rw [hS0] at hE hD hz
 obtain ⟨hsc1, hsc2⟩ := hD.ph.scan
 refine calls_enter Tryz.func42 rfl 62 rfl rfl ?_; intro a S
 refine wp_seq ?_
 skip
 refine wp_region_lit (qG [1] S ?_); intro a S
 refine nxA (qR [1, 1, 3, 1] S M ?_); intro a S
 refine qC (xs := [.tmp 12]) S (qE Tryz.func40) rfl (shOpenF_any (A := _ :: A) (suO o) 1 hE M hD.up hD.cache hz hD.sup.gs (by have := congrArg List.length hsc1; simpa using this) hsc2) ?_
 rintro _ w1 ⟨bs, rfl, hM⟩; refine ⟨_, rfl, ?_⟩; intro a S
 obtain ⟨da, dc, lo, hi, cs, es, E1, hE1, hBk, M⟩ := ShM.open (P := [_]) hM
 clear hM
 simp only [List.cons_append, List.nil_append] at M
 refine qG [1, 1, 1, 1, 1] S ?_; intro a S
 refine nxC (wp_seq (nxD (qG [1, 1] S ?_))); intro a S
 refine nxC (st_if (t := 17) S rfl ?_ ?_)
 ·intro h17 S
  exact absurd rfl h17
 intro h17 S
 refine st_condF S rfl (wp_skip (nxE (qG [1] S ?_))); intro a S
 refine qC (xs := [.tmp 20]) S (qE Tryz.func77) rfl (begin11_any (A := [_] ++ A) (suO o) (ShM.close (P := [_]) hE1 hBk M) hD.up (fun k => by have := hD.one k; omega) hD.sup.gs (begS_may ho) (by decide : (0 : Int) ≤ 0) (by decide : (0 : Int) ≤ 1) rfl) ?_
 rintro _ w2 ⟨rfl, hM⟩; refine ⟨_, rfl, ?_⟩; intro a S
 obtain ⟨da1, dc1, lo1, hi1, cs1, es1, E2, hE2, hBk2, M⟩ := ShM.open (P := [_]) hM
 clear hM
 simp only [List.cons_append, List.nil_append] at M
 refine qG [1, 1, 1, 1, 1] S ?_; intro a S
 replace S := S.keep [0, 2, 3, 17, 5, 4]
 refine nxC (wp_seq (nxD (qG [1, 1] S ?_))); intro a S
 refine nxC (st_if (t := 25) S rfl ?_ ?_)
 ·intro h25 S
  exact absurd rfl h25
 intro h25 S
 refine st_condF S rfl (wp_skip (nxE (qG [1] S ?_))); intro a S
 refine qC (xs := [.tmp 28]) S (qE Tryz.func78) rfl (newP_any (A := [_] ++ A) (ShM.close (P := [_]) hE2 hBk2 M) rfl rfl) ?_
 rintro _ w3 ⟨rfl, hM⟩; refine ⟨_, rfl, ?_⟩; intro a S
 obtain ⟨da2, dc2, lo2, hi2, cs2, es2, E3, hE3, hBk3, M⟩ := ShM.open (P := [_]) hM
 clear hM
 simp only [List.cons_append, List.nil_append] at M
 refine qG [1, 1, 1] S ?_; intro a S
 refine st_alloc S M rfl rfl #[.slice none 0 0, .slice none 0 0, .slice none 0 0, .slice none 0 0] (by kernel_rfl) ?_; intro a w4 bP S M hB
 refine qS (sz := 4) (us := [_, _, _, _]) S M 0 ?_; intro w5 M
 refine qG [1] S ?_; intro a S
 refine nxC (wp_seq (nxD (qG [1, 1] S ?_))); intro a S
 refine nxC (st_if (t := 33) S rfl ?_ ?_)
 ·intro h33 S
  exact absurd rfl h33
 intro h33 S
 refine st_condF S rfl (wp_skip (nxE (qR [1, 1, 1, 2, 1] S M ?_))); intro a S
 refine qQ (xs := [.tmp 39, .tmp 40]) S (qE Tryz.func73) rfl (newKz_any self 1 (by omega) (by omega) _) M ?_; intro a w6 S hK M
 refine qG [1, 1, 1] S ?_; intro a S
 refine st_alloc S M rfl rfl #[.int .i64 0, .int .i64 0, .int .i64 0, .int .i64 0, .int .i64 0, .int .i64 0, .int .i64 0] (by kernel_rfl) ?_; intro a w7 bK S M hB
 refine qS (sz := 7) (us := [_, _, _, _, _, _, _]) S M 0 ?_; intro w8 M
 refine qG [1] S ?_; intro a S
 replace S := S.keep [0, 2, 3, 17, 5, 25, 6, 33, 7, 4]
 refine nxC (wp_seq (nxD (qG [1, 1] S ?_))); intro a S
 refine nxC (st_if (t := 45) S rfl ?_ ?_)
 ·intro h45 S
  exact absurd rfl h45
 intro h45 S
 refine st_condF S rfl (wp_skip (then_normal (wp_seq (wp_regionKC (C := fun W => Blk W bP #[.slice none 0 0, .slice none 0 0, .slice none 0 0, .slice none 0 0] 128 ∧ Blk W bK #[.int .i64 self, .int .i64 1, .int .i64 0, .int .i64 0, .int .i64 0, .int .i64 0, .int .i64 0] 94) [9, 12, 15, 18] #[false, false, false, false, false, false, false, false, false, false, false, false, false, false, false, false, false, false, false] rfl M (by kernel_rfl) ?_)))); intro w9 M; have hC := And.intro (M.blk 1 rfl) (M.blk 0 rfl)
 refine kc_readC 0 S rfl hC (fun w _ => y_move S rfl) ?_; intro a S
 refine kc_readC 1 S rfl hC (fun w _ => y_move S rfl) ?_; intro a S
 refine kc_readC 2 S rfl hC (fun w _ => y_move S rfl) ?_; intro a S
 refine kc_readC 3 S rfl hC (fun w _ => y_move S rfl) ?_; intro a S
 refine kc_readC 4 S rfl hC (fun w _ => y_move S rfl) ?_; intro a S
 refine kc_readC 5 S rfl hC (fun w hC => y_loadAgg (cs := [_, _, _, _]) S (by kernel_rfl) rfl rfl (Blk.cellsAt (o := 0) (k := 4) hC.1 rfl)) ?_; intro a S
 refine kc_readC 6 S rfl hC (fun w hC => y_loadAgg (cs := [_, _, _, _, _, _, _]) S (by kernel_rfl) rfl rfl (Blk.cellsAt (o := 0) (k := 7) hC.2 rfl)) ?_; intro a S
 refine kc_readC 7 S rfl hC (fun w _ => y_nilCheck S rfl) ?_; intro a S
 refine kc_readC 8 S rfl hC (fun w _ => y_fieldAddr (k := 3) S (by kernel_rfl) rfl) ?_; intro a S
 refine kc_one 9 rfl (by kernel_rfl) ?_
 refine qS (sz := 1) (us := [_]) S M 2 ?_; intro w10 M
 replace hC := And.intro (M.blk 1 rfl) (M.blk 0 rfl)
 refine nxC ⟨fun h => absurd h (by decide), hC, ?_⟩
 refine kc_readC 10 S rfl hC (fun w _ => y_nilCheck S rfl) ?_; intro a S
 refine kc_readC 11 S rfl hC (fun w _ => y_fieldAddr (k := 4) S (by kernel_rfl) rfl) ?_; intro a S
 refine kc_one 12 rfl (by kernel_rfl) ?_
 refine qS (sz := 4) (us := [_, _, _, _]) S M 2 ?_; intro w11 M
 replace hC := And.intro (M.blk 1 rfl) (M.blk 0 rfl)
 refine nxC ⟨fun h => absurd h (by decide), hC, ?_⟩
 refine kc_readC 13 S rfl hC (fun w _ => y_nilCheck S rfl) ?_; intro a S
 refine kc_readC 14 S rfl hC (fun w _ => y_fieldAddr (k := 8) S (by kernel_rfl) rfl) ?_; intro a S
 refine kc_one 15 rfl (by kernel_rfl) ?_
 refine qS (sz := 7) (us := [_, _, _, _, _, _, _]) S M 2 ?_; intro w12 M
 replace hC := And.intro (M.blk 1 rfl) (M.blk 0 rfl)
 refine nxC ⟨fun h => absurd h (by decide), hC, ?_⟩
 refine kc_readC 16 S rfl hC (fun w _ => y_nilCheck S rfl) ?_; intro a S
 refine kc_readC 17 S rfl hC (fun w _ => y_fieldAddr (k := 1) S (by kernel_rfl) rfl) ?_; intro a S
 refine kc_one 18 rfl (by kernel_rfl) ?_
 refine qS (sz := 1) (us := [_]) S M 2 ?_; intro w13 M
 replace hC := And.intro (M.blk 1 rfl) (M.blk 0 rfl)
 refine nxC ⟨fun h => absurd h (by decide), hC, ?_⟩
 refine kc_end (by kernel_rfl) ?_
 replace S := S.keep [0, 2, 3, 17, 5, 25, 6, 33, 7, 4, 45]
 refine nxE (qG [1] S ?_); intro a S
 refine nxC (wp_ret (end_one S rfl (res_tmp rfl) ?_))
 skip
 replace M := M.drp 0
 replace M := M.drp 0
 exact ⟨rfl, bs, _, ShM.close (P := [_]) hE3 hBk3 M⟩
set_option maxHeartbeats 1000000 in
theorem newSite_any {wc w : World} {A : List Ent} (self o : Int) (hs : 1 ≤ self ∧ self ≤ 4) (ho : 0 ≤ o ∧ o ≤ 255) (M : Mem wc w A) :
 Calls Tryz.prog 23 #[.int .i64 self, .int .i64 o] w fun e w' => ∃ b bd bs S1, e = .returned (.tuple #[pB b, .int .i64 0]) ∧ ShM wc w' (.blk b (siteC self true bd (pB bs) self 1).toArray 130 :: A) bs bd (shN o) S1 := by
 refine calls_enter Tryz.func23 rfl 38 rfl rfl ?_; intro a S
 refine nxD (qG [1, 1] S ?_); intro a S
 refine nxA (qG [1] S ?_); intro a S
 refine qC (xs := []) S (qE Tryz.func37) rfl (new_any _) ?_
 rintro _ w1 ⟨bd, E, rfl, hE, M1⟩; refine ⟨_, rfl, ?_⟩; intro a S
 replace M := M.joinR M1
 refine qY S (y_build (ps := [(0, .tmp 11), (2, .tmp 12)]) (pl := [(0, 1), (1, 1), (2, 1), (3, 1), (4, 4), (8, 7)]) (z := [.int .i64 0, .bool false, .pointer none, .pointer none, .slice none 0 0, .slice none 0 0, .slice none 0 0, .slice none 0 0, .int .i64 0, .int .i64 0, .int .i64 0, .int .i64 0, .int .i64 0, .int .i64 0, .int .i64 0]) (cs := [_, _, _, _, _, _, _, _, _, _, _, _, _, _, _]) S (by kernel_rfl) rfl (rfl)) ?_; intro a S
 refine st_box S M rfl rfl rfl #[_, _, _, _, _, _, _, _, _, _, _, _, _, _, _] rfl ?_; intro a w2 bX S M hB
 refine qG [1] S ?_; intro a S
 refine nxA (qR [1, 1, 3, 1] S M ?_); intro a S
 refine qC (xs := [.tmp 19]) S (qE Tryz.func40) rfl (shOpen0_any (A := _ :: A) hE M) ?_
 rintro _ w3 ⟨bs, rfl, hM⟩; refine ⟨_, rfl, ?_⟩; intro a S
 obtain ⟨da, dc, lo, hi, cs, es, E1, hE1, hBk, M⟩ := ShM.open (P := [_]) hM
 clear hM
 simp only [List.cons_append, List.nil_append] at M
 refine qG [1, 1, 1, 1, 1] S ?_; intro a S
 refine nxC (wp_seq (nxD (qG [1, 1] S ?_))); intro a S
 refine nxC (st_if (t := 24) S rfl ?_ ?_)
 ·intro h24 S
  exact absurd rfl h24
 intro h24 S
 refine st_condF S rfl (wp_skip (then_normal (wp_seq (nxD (qG [1, 1] S ?_))))); intro a S
 refine qC (xs := [.tmp 26, .tmp 27]) S (qE Tryz.func41) rfl (own11_any (A := [_] ++ A) suFirst o ho rfl (ShM.close (P := [_]) hE1 hBk M) rfl (fun k => Nat.zero_le _) gs_new (suO_may ho) (by decide : (0 : Int) ≤ 0) rfl) ?_
 rintro _ w4 ⟨rfl, hM⟩; refine ⟨_, rfl, ?_⟩; intro a S
 obtain ⟨da1, dc1, lo1, hi1, cs1, es1, E2, hE2, hBk2, M⟩ := ShM.open (P := [_]) hM
 clear hM
 replace M := M.sub (.cons_cons _ (.cons _ (.cons _ (List.sublist_append_right _ _))))
 refine qG [1] S ?_; intro a S
 replace S := S.keep [0, 1, 4, 5, 6, 7, 8, 24, 9]
 refine nxA (qG [1, 1] S ?_); intro a S
 refine nxC (st_if (t := 30) S rfl ?_ ?_)
 ·intro h30 S
  exact absurd rfl h30
 intro h30 S
 refine st_condF S rfl (wp_skip (then_normal (wp_seq (nxD (qG [1] S ?_))))); intro a S
 refine qC (xs := [.tmp 32]) S (qE Tryz.func42) rfl (siteOpen_any self o hs ho hE2 M) ?_
 rintro _ w5 ⟨rfl, bs2, S2, hM⟩; refine ⟨_, rfl, ?_⟩; intro a S
 obtain ⟨da2, dc2, lo2, hi2, cs2, es2, E3, hE3, hBk3, M⟩ := ShM.open (P := [_]) hM
 clear hM
 simp only [List.cons_append, List.nil_append] at M
 refine qG [1] S ?_; intro a S
 refine nxA (qG [1, 1] S ?_); intro a S
 refine nxC (st_if (t := 35) S rfl ?_ ?_)
 ·intro h35 S
  exact absurd rfl h35
 intro h35 S
 refine st_condF S rfl (wp_skip (nxE (qG [1, 1, 1] S ?_))); intro a S
 refine nxC (wp_ret (end_two S rfl (res_tmp rfl) (res_tmp rfl) ?_))
 exact ⟨bX, bd, bs2, S2, rfl, ShM.close (P := [_]) hE3 hBk3 M⟩
end Go.Proofs.YtkkcehcpffamkaaGreat

namespace Go.Proofs.YtkkcehcpffamkaaGreat
open Go.RowKit Go.Sort
theorem least_any (x y : Int) (w : World) : Calls Tryz.prog 175 #[.int .i64 x, .int .i64 y] w fun e w' => e = .returned (.int .i64 (min x y)) ∧ Below w.heap.size w w' := by
 have M := Mem.start w
 refine calls_enter Tryz.func175 rfl 10 rfl rfl ?_; intro a S
 refine nxD (qG [1] S ?_); intro a S
 refine nxC (wp_seq (nxD (qG [1, 1, 1] S ?_))); intro a S
 refine nxC (st_if (t := 7) S rfl ?_ ?_)
 ·intro h7 S
  refine st_condT S rfl (nxD (qG [1, 1] S ?_)); intro a S
  refine nxC (wp_ret (then_ret (end_one S rfl (res_tmp rfl) ?_)))
  refine ⟨?_, M.below⟩; congr 2; omega
 intro h7 S
 refine st_condF S rfl (wp_skip (nxE (qG [1, 1] S ?_))); intro a S
 refine nxC (wp_ret (end_one S rfl (res_tmp rfl) ?_))
 refine ⟨?_, M.below⟩; congr 2; omega
theorem most_any (x y : Int) (w : World) : Calls Tryz.prog 226 #[.int .i64 x, .int .i64 y] w fun e w' => e = .returned (.int .i64 (max x y)) ∧ Below w.heap.size w w' := by
 have M := Mem.start w
 refine calls_enter Tryz.func226 rfl 10 rfl rfl ?_; intro a S
 refine nxD (qG [1] S ?_); intro a S
 refine nxC (wp_seq (nxD (qG [1, 1, 1] S ?_))); intro a S
 refine nxC (st_if (t := 7) S rfl ?_ ?_)
 ·intro h7 S
  refine st_condT S rfl (nxD (qG [1, 1] S ?_)); intro a S
  refine nxC (wp_ret (then_ret (end_one S rfl (res_tmp rfl) ?_)))
  refine ⟨?_, M.below⟩; congr 2; omega
 intro h7 S
 refine st_condF S rfl (wp_skip (nxE (qG [1, 1] S ?_))); intro a S
 refine nxC (wp_ret (end_one S rfl (res_tmp rfl) ?_))
 refine ⟨?_, M.below⟩; congr 2; omega
theorem withinK_any (n : Int) (w : World) : Calls Tryz.prog 149 #[.int .i64 n] w fun e w' => e = .returned (.bool (decide (1 ≤ n ∧ n ≤ 1048577))) ∧ Below w.heap.size w w' := by
 have M := Mem.start w
 refine calls_enter Tryz.func149 rfl 8 rfl rfl ?_; intro a S
 refine nxD (qG [1] S ?_); intro a S
 refine nxA (qG [1] S ?_); intro a S
 refine qQ (xs := [.tmp 3, .const (.int .i64 1048577)]) S (qE Tryz.func175) rfl (least_any _ _ _) M ?_; intro a w1 S hK M
 refine qQ (xs := [.const (.int .i64 1), .tmp 4]) S (qE Tryz.func226) rfl (most_any _ _ _) M ?_; intro a w2 S hK M
 refine qG [1, 1, 1] S ?_; intro a S
 refine nxC (wp_ret (end_one S rfl (res_tmp rfl) ?_))
 refine ⟨ret_bool ?_, M.below⟩; clear S M; rw [Bool.eq_iff_iff]; simp only [decide_eq_true_eq, beq_iff_eq]; omega
def stOk (n b : Int) : Prop := 1 ≤ n ∧ n ≤ b ∧ b ≤ 1048577
theorem mayT_any (n b : Int) (h : stOk n b) (w : World) : Calls Tryz.prog 95 #[.agg #[.int .i64 n, .int .i64 b]] w fun e w' => e = .returned (.bool true) ∧ Below w.heap.size w w' := by
 have M := Mem.start w
 unfold stOk at h
 refine calls_enter Tryz.func95 rfl 18 rfl rfl ?_; intro a S
 refine nxD (st_box S M rfl rfl rfl #[_, _] rfl ?_); intro a w1 b1 S M hB
 refine qG [1] S ?_; intro a S
 refine nxA (qR [1, 1] S M ?_); intro a S
 refine qQ (xs := [.tmp 4]) S (qE Tryz.func149) rfl (withinK_any _ _) M ?_; intro a w2 S hK M
 refine qG [1] S ?_; intro a S
 refine st_fi (t := 6) S rfl ?_ ?_
 ·intro h6 S
  exfalso; simp at h6; omega
 intro h6 S
 refine qR [2, 1] S M ?_; intro a S
 refine qQ (xs := [.tmp 8]) S (qE Tryz.func149) rfl (withinK_any _ _) M ?_; intro a w3 S hK M
 refine qG [1, 1] S ?_; intro a S
 refine st_fi (t := 11) S rfl ?_ ?_
 ·intro h11 S
  exfalso; simp at h11; omega
 intro h11 S
 refine qR [1, 1, 2, 1, 1, 1, 1] S M ?_; intro a S
 replace S := S.keep [0, 1, 2]
 refine nxC (wp_ret (end_one S rfl (res_tmp rfl) ?_))
 refine ⟨ret_bool ?_, M.below⟩; simp; omega
theorem newT_any (b : Int) (h : 1 ≤ b ∧ b ≤ 1048577) (w : World) : Calls Tryz.prog 65 #[.int .i64 b] w fun e w' => e = .returned (.tuple #[.agg #[.int .i64 b, .int .i64 b], .int .i64 0]) ∧ Below w.heap.size w w' := by
 have M := Mem.start w
 refine calls_enter Tryz.func65 rfl 13 rfl rfl ?_; intro a S
 refine nxD (st_alloc S M rfl rfl #[.int .i64 0, .int .i64 0] (by kernel_rfl) ?_); intro a w1 b1 S M hB
 refine qG [1] S ?_; intro a S
 refine nxA (qG [1, 1] S ?_); intro a S
 refine qY S (y_build (ps := [(0, .tmp 5), (1, .tmp 6)]) (pl := [(0, 1), (1, 1)]) (z := [.int .i64 0, .int .i64 0]) (cs := [_, _]) S (by kernel_rfl) rfl (rfl)) ?_; intro a S
 refine st_alloc S M rfl rfl #[.int .i64 0, .int .i64 0] (by kernel_rfl) ?_; intro a w2 b2 S M hB
 refine qS (sz := 2) (us := [_, _]) S M 0 ?_; intro w3 M
 refine nxC (wp_seq (nxD (qY S (y_loadAgg (cs := [_, _]) S (by kernel_rfl) rfl rfl (M.cellsAt (k := 2) 0 rfl rfl)) ?_))); intro a S
 refine qQ (xs := [.tmp 8]) S (qE Tryz.func95) rfl (mayT_any b b ⟨h.1, Int.le_refl _, h.2⟩ _) M ?_; intro a w4 S hK M
 refine qG [1] S ?_; intro a S
 refine nxC (st_if (t := 10) S rfl ?_ ?_)
 ·intro h10 S
  cases h10
 intro h10 S
 refine st_condF S rfl (wp_skip (nxE (qY S (y_loadAgg (cs := [_, _]) S (by kernel_rfl) rfl rfl (M.cellsAt (k := 2) 0 rfl rfl)) ?_))); intro a S
 refine qS (sz := 2) (us := [_, _]) S M 1 ?_; intro w5 M
 refine qG [1] S ?_; intro a S
 refine nxC (wp_ret (end_two S rfl (res_agg (cs := [_, _]) (by kernel_rfl) rfl rfl (M.cellsAt (k := 2) 1 rfl rfl)) (res_tmp rfl) ?_))
 exact ⟨rfl, M.below⟩
theorem newSe_any (i : Int) (h : 1 ≤ i ∧ i ≤ 1048576) (w : World) : Calls Tryz.prog 68 #[.int .i64 i] w fun e w' => e = .returned (.tuple #[.agg #[.slice none 0 0, .int .i64 0, .int .i64 i, .slice none 0 0], .int .i64 0]) ∧ Below w.heap.size w w' := by
 have M := Mem.start w
 refine calls_enter Tryz.func68 rfl 13 rfl rfl ?_; intro a S
 refine nxD (st_alloc S M rfl rfl #[.slice none 0 0, .int .i64 0, .int .i64 0, .slice none 0 0] (by kernel_rfl) ?_); intro a w1 b1 S M hB
 refine qG [1] S ?_; intro a S
 refine nxC (wp_seq (nxD (qG [1, 1, 1] S ?_))); intro a S
 refine st_if (t := 6) S rfl ?_ ?_
 ·intro h6 S
  exfalso; omega
 intro h6 S
 refine qG [1, 1, 1] S ?_; intro a S
 refine nxC (st_if (t := 9) S rfl ?_ ?_)
 ·intro h9 S
  exfalso; omega
 intro h9 S
 refine st_condF S rfl (wp_skip (nxE (qG [1] S ?_))); intro a S
 refine qY S (y_build (ps := [(2, .tmp 11)]) (pl := [(0, 1), (1, 1), (2, 1), (3, 1)]) (z := [.slice none 0 0, .int .i64 0, .int .i64 0, .slice none 0 0]) (cs := [_, _, _, _]) S (by kernel_rfl) rfl (rfl)) ?_; intro a S
 refine qS (sz := 4) (us := [_, _, _, _]) S M 0 ?_; intro w2 M
 refine qG [1] S ?_; intro a S
 refine nxC (wp_ret (end_two S rfl (res_agg (cs := [_, _, _, _]) (by kernel_rfl) rfl rfl (M.cellsAt (k := 4) 0 rfl rfl)) (res_tmp rfl) ?_))
 exact ⟨rfl, M.below⟩
theorem newCo_any (va : Option Addr) (vc : Nat) (w : World) : Calls Tryz.prog 70 #[.slice va 0 vc] w fun e w' => e = .returned (.tuple #[.agg #[.slice none 0 0], .int .i64 0]) ∧ Below w.heap.size w w' := by
 have M := Mem.start w
 refine calls_enter Tryz.func70 rfl 65 rfl rfl ?_; intro a S
 refine nxD (st_alloc S M rfl rfl #[.slice none 0 0] (by kernel_rfl) ?_); intro a w1 bR S M hB
 refine qG [1] S ?_; intro a S
 refine nxC (wp_seq (nxD (qG [1] S ?_))); intro a S
 refine qY S (y_lenS (E := 211) S rfl (by kernel_rfl)) ?_; intro a S
 refine qG [1] S ?_; intro a S
 refine nxC (st_if (t := 12) S rfl ?_ ?_)
 ·intro h12 S
  exfalso; omega
 intro h12 S
 refine st_condF S rfl (wp_skip (nxE (st_alloc S M rfl rfl #[.slice none 0 0] (by kernel_rfl) ?_))); intro a w2 bC S M hB
 refine nxC (wp_seq (nxD (qG [1] S ?_))); intro a S
 refine qY S (y_lenS (E := 211) S rfl (by kernel_rfl)) ?_; intro a S
 refine qG [1] S ?_; intro a S
 refine nxC (wp_block (wp_loop_g (fun q a w' => q = 0 ∧ Sees 65 a [(2, pB bR), (4, pB bC), (14, .slice va 0 vc), (15, .int .i64 0), (16, .int .i64 0)] ∧ Mem w w' [.blk bC #[.slice none 0 0] 72, .blk bR #[.slice none 0 0] 72]) (0) ?_ ?_))
 ·skip
  exact ⟨rfl, S.sub _ rfl, M⟩
 intro m a wl
 rintro ⟨rfl, S, M⟩
 refine nxD (qG [1] S ?_); intro a S
 refine nxC (wp_seq (st_if (t := 17) S rfl ?_ ?_))
 ·intro h17 S
  exfalso; omega
 intro h17 S
 refine st_condF S rfl (wp_exit (then_exit (then_exit (block_hit (nxE (qY S (y_loadAgg (cs := [_]) S (by kernel_rfl) rfl rfl (M.cellsAt (k := 1) 0 rfl rfl)) ?_)))))); intro a S
 refine qS (sz := 1) (us := [_]) S M 1 ?_; intro w3 M
 refine qG [1] S ?_; intro a S
 refine nxC (wp_ret (end_two S rfl (res_agg (cs := [_]) (by kernel_rfl) rfl rfl (M.cellsAt (k := 1) 1 rfl rfl)) (res_tmp rfl) ?_))
 exact ⟨rfl, M.below⟩
theorem shardIsK_any (n : Int) (h : 1 ≤ n ∧ n ≤ 4) (w : World) : Calls Tryz.prog 36 #[.int .i64 n] w fun e w' => e = .returned (.bool true) ∧ Below w.heap.size w w' := by
 have M := Mem.start w
 refine calls_enter Tryz.func36 rfl 9 rfl rfl ?_; intro a S
 refine nxD (qG [1] S ?_); intro a S
 refine nxA (qG [1, 1, 1] S ?_); intro a S
 refine st_if (t := 5) S rfl ?_ ?_
 ·intro h5 S
  refine qG [1, 1, 1, 1] S ?_; intro a S
  refine nxC (wp_ret (end_one S rfl (res_tmp rfl) ?_))
  refine ⟨ret_bool ?_, M.below⟩; first | (simp; done) | (simp; omega)
 intro h5 S
 refine qG [0, 0, 1, 1] S ?_; intro a S
 refine nxC (wp_ret (end_one S rfl (res_tmp rfl) ?_))
 refine ⟨ret_bool ?_, M.below⟩; first | (simp; done) | (simp; omega)
def firM (n : Int) : Su := ⟨0, 0, 0, 0, 0, 1 + 0 % n, 1 + 1 % n, 1 + 2 % n, 1 + 3 % n, 1 + 4 % n, 1 + 5 % n, 1 + 6 % n, 1 + 7 % n⟩
def firP (n : Int) (k : Nat) : Su := ⟨0, 0, 0, 0, 0, if 0 < k then 1 + 0 % n else 0, if 1 < k then 1 + 1 % n else 0, if 2 < k then 1 + 2 % n else 0, if 3 < k then 1 + 3 % n else 0, if 4 < k then 1 + 4 % n else 0, if 5 < k then 1 + 5 % n else 0, if 6 < k then 1 + 6 % n else 0, if 7 < k then 1 + 7 % n else 0⟩
theorem firM_ok {n : Int} (h : 1 ≤ n ∧ n ≤ 4) : (firM n).mapOk := fun k hk => by
 have e : n = 1 ∨ n = 2 ∨ n = 3 ∨ n = 4 := by omega
 rcases e with rfl | rfl | rfl | rfl <;> rcases lt8 hk with rfl | rfl | rfl | rfl | rfl | rfl | rfl | rfl <;> decide
theorem firP_next (n : Int) {k : Nat} (h : k < 8) : putL (mapL (firP n k)) k [.int .i64 (1 + (k : Int) % n)] = mapL (firP n (k + 1)) := by
 rcases lt8 h with rfl | rfl | rfl | rfl | rfl | rfl | rfl | rfl <;> rfl
theorem first_any (n : Int) (h : 1 ≤ n ∧ n ≤ 4) (w : World) : Calls Tryz.prog 21 #[.int .i64 n] w fun e w' => e = .returned (.tuple #[.agg (mapL (firM n)).toArray, .int .i64 0]) ∧ Below w.heap.size w w' := by
 have M := Mem.start w
 refine calls_enter Tryz.func21 rfl 21 rfl rfl ?_; intro a S
 refine nxD (st_alloc S M rfl rfl #[.int .i64 0, .int .i64 0, .int .i64 0, .int .i64 0, .int .i64 0, .int .i64 0, .int .i64 0, .int .i64 0] (by kernel_rfl) ?_); intro a w1 bR S M hB
 refine qG [1] S ?_; intro a S
 refine nxA (st_alloc S M rfl rfl #[.int .i64 0, .int .i64 0, .int .i64 0, .int .i64 0, .int .i64 0, .int .i64 0, .int .i64 0, .int .i64 0] (by kernel_rfl) ?_); intro a w2 bF S M hB
 refine nxC (wp_seq (nxD (qG [1] S ?_))); intro a S
 refine qQ (xs := [.tmp 6]) S (qE Tryz.func36) rfl (shardIsK_any n h _) M ?_; intro a w3 S hK M
 refine qG [1] S ?_; intro a S
 refine nxC (st_if (t := 8) S rfl ?_ ?_)
 ·intro h8 S
  cases h8
 intro h8 S
 refine st_condF S rfl (wp_skip (then_normal (wp_seq (nxD (qG [1] S ?_))))); intro a S
 refine nxC (wp_block (wp_loop_g (fun q a w' => ∃ (k : Nat), k ≤ 8 ∧ q = 8 - k ∧ Sees 21 a [(0, .int .i64 n), (2, pB bR), (4, pB bF), (10, .int .i64 (k : Int))] ∧ Mem w w' [.blk bF (mapL (firP n k)).toArray 54, .blk bR #[.int .i64 0, .int .i64 0, .int .i64 0, .int .i64 0, .int .i64 0, .int .i64 0, .int .i64 0, .int .i64 0] 54]) (8) ?_ ?_))
 ·skip
  exact ⟨0, Nat.zero_le _, rfl, S.sub _ rfl, M⟩
 intro m a wl
 rintro ⟨k, hk, rfl, S, M⟩
 refine nxD (qG [1] S ?_); intro a S
 refine nxC (wp_seq (st_fi (t := 11) S rfl ?_ ?_))
 ·intro h11 S
  refine st_condF S rfl (wp_exit (then_exit (then_exit (block_hit (then_normal (wp_seq ?_))))))
  obtain rfl : k = 8 := by omega
  refine wp_region_lit (qY S (y_loadAgg (cs := [_, _, _, _, _, _, _, _]) S (by kernel_rfl) rfl rfl (M.cellsAt (k := 8) 0 rfl rfl)) ?_); intro a S
  refine qS (sz := 8) (us := [_, _, _, _, _, _, _, _]) S M 1 ?_; intro w5 M
  refine qG [1] S ?_; intro a S
  refine nxC (wp_ret (end_two S rfl (res_agg (cs := [_, _, _, _, _, _, _, _]) (by kernel_rfl) rfl rfl (M.cellsAt (k := 8) 1 rfl rfl)) (res_tmp rfl) ?_))
  exact ⟨rfl, M.below⟩
 intro h11 S
 refine st_condT S rfl (wp_skip (then_normal (wp_seq (wp_block (nxD (qG [1, 1] S ?_)))))); intro a S
 refine nxC ?_
 have hr1 := Int.emod_nonneg (k : Int) (show n ≠ 0 by omega)
 have hr2 := Int.emod_lt_of_pos (k : Int) (show 0 < n by omega)
 refine wp_region_lit (qG [1, 1, 1] S ?_); intro a S
 (first | refine qY S (y_remN S rfl rfl (by omega)) ?_ | refine qY S (y_remZ S rfl rfl (by omega)) ?_); intro a S
 (first | refine qY S (y_addN S rfl rfl (by omega)) ?_ | refine qY S (y_int S rfl rfl rfl) ?_); intro a S
 refine qY S (y_indexA (m := 8) (sz := 1) S (by kernel_rfl) rfl rfl (by first | omega | (simp; done) | (simp; omega))) ?_; intro a S
 try simp only [Int.toNat_natCast, Nat.mul_one, Nat.zero_add] at S
 refine st_store (sz := 1) (us := [_]) S M 0 rfl (by kernel_rfl) rfl rfl rfl rfl rfl rfl (by show _ ≤ 8; simp only [List.length_cons, List.length_nil]; omega) ?_; intro w4 M
 simp only [List.set_cons_zero, List.set_cons_succ] at M
 refine wpList_nil (block_normal (nxF ?_))
 (first | refine qY S (y_addN S rfl rfl (by omega)) ?_ | refine qY S (y_int S rfl rfl rfl) ?_); intro a S
 refine qG [1] S ?_; intro a S
 refine nxC ?_
 rw [firP_next n (by omega)] at M
 exact ⟨8 - (k + 1), by omega, k + 1, by omega, rfl, S.sub _ rfl, M⟩
def ownB (m : Su) (n : Int) : Nat → Int
 | 0 => 0
 | k + 1 => if m.mAt k = n then orV (ownB m n k) (1 * (2 : Int) ^ k) else ownB m n k
theorem shlK {c : Nat} (h : c < 8) : -9223372036854775808 ≤ 1 * (2 : Int) ^ c ∧ 1 * (2 : Int) ^ c ≤ 9223372036854775807 := by
 rcases lt8 h with rfl | rfl | rfl | rfl | rfl | rfl | rfl | rfl <;> decide
theorem ownB_yes {m : Su} {n : Int} {k : Nat} (h : m.mAt k = n) : orV (ownB m n k) (1 * (2 : Int) ^ k) = ownB m n (k + 1) := by rw [ownB, if_pos h]
theorem ownB_no {m : Su} {n : Int} {k : Nat} (h : m.mAt k ≠ n) : ownB m n k = ownB m n (k + 1) := by rw [ownB, if_neg h]
theorem owned_any (m : Su) (n : Int) (hb : ∀ k, k < 8 → 0 ≤ ownB m n k ∧ ownB m n k ≤ 255) (w : World) : Calls Tryz.prog 24 #[.agg (mapL m).toArray, .int .i64 n] w fun e w' => e = .returned (.int .i64 (ownB m n 8)) ∧ Below w.heap.size w w' := by
 have M := Mem.start w
 refine calls_enter Tryz.func24 rfl 22 rfl rfl ?_; intro a S
 refine nxD (st_box S M rfl rfl rfl #[_, _, _, _, _, _, _, _] rfl ?_); intro a w1 bF S M hB
 refine qG [1] S ?_; intro a S
 refine nxA (qG [1] S ?_); intro a S
 refine nxC (wp_seq (nxD (qY S (y_loadAgg (cs := [_, _, _, _, _, _, _, _]) S (by kernel_rfl) rfl rfl (M.cellsAt (k := 8) 0 rfl rfl)) ?_))); intro a S
 refine qG [1] S ?_; intro a S
 refine nxC (wp_block (wp_loop_g (fun q a w' => ∃ (k : Nat), k ≤ 8 ∧ q = 8 - k ∧ Sees 22 a [(1, .int .i64 n), (5, .int .i64 (ownB m n k)), (8, .agg (mapL m).toArray), (9, .int .i64 (k : Int))] ∧ Mem w w' []) (8) ?_ ?_))
 ·skip
  exact ⟨0, Nat.zero_le _, rfl, S.sub _ rfl, M.drop 0⟩
 intro m a wl
 rintro ⟨k, hk, rfl, S, M⟩
 refine nxD (qG [1] S ?_); intro a S
 refine nxC (wp_seq (st_fi (t := 10) S rfl ?_ ?_))
 ·intro h10 S
  refine st_condF S rfl (wp_exit (then_exit (then_exit (block_hit (nxE (qG [1, 1] S ?_)))))); intro a S
  refine nxC (wp_ret (end_one S rfl (res_tmp rfl) ?_))
  obtain rfl : k = 8 := by omega
  exact ⟨rfl, M.below⟩
 intro h10 S
 refine st_condT S rfl (wp_skip (then_normal (wp_seq (wp_block (nxD (qG [1] S ?_)))))); intro a S
 refine qY S (y_indexP (m := 8) (sz := 1) S (by kernel_rfl) (fun e he => by cases he.symm.trans (show _ = some (.array 8 3) by kernel_rfl); kernel_rfl) rfl rfl (by first | omega | (simp; done) | (simp; omega)) ((by rw [Int.toNat_natCast, Nat.mul_one]; exact mapL_at m (by omega)))) ?_; intro a S
 refine qG [1, 1] S ?_; intro a S
 refine nxA (qG [1, 1, 1] S ?_); intro a S
 refine nxC (st_fi (t := 15) S rfl ?_ ?_)
 ·intro h15 S
  refine st_condF S rfl (wp_skip (block_normal (nxF ?_)))
  (first | refine qY S (y_addN S rfl rfl (by omega)) ?_ | refine qY S (y_int S rfl rfl rfl) ?_); intro a S
  refine qG [1] S ?_; intro a S
  refine nxC ?_
  refine ⟨8 - (k + 1), by omega, k + 1, by omega, rfl, ?_, M⟩
  first
   | (have e := ownB_yes h15; rw [← e]; exact S.sub _ rfl)
   | (have e := ownB_no h15; rw [← e]; exact S.sub _ rfl)
 intro h15 S
 refine st_condT S rfl (wp_region_lit (qG [1, 1] S ?_)); intro a S
 (first | refine qY S (y_shlN S rfl rfl (by omega) (by rw [Int.toNat_natCast]; exact shlK (by omega))) ?_ | refine qY S (y_shl S rfl rfl (by omega)) ?_); intro a S
 (first | refine qY S (y_orN S rfl rfl (by omega) (by omega)) ?_ | refine qY S (y_int S rfl rfl rfl) ?_); intro a S
 refine qG [1] S ?_; intro a S
 refine wpList_nil (block_normal (nxF ?_))
 (first | refine qY S (y_addN S rfl rfl (by omega)) ?_ | refine qY S (y_int S rfl rfl rfl) ?_); intro a S
 refine qG [1] S ?_; intro a S
 refine nxC ?_
 refine ⟨8 - (k + 1), by omega, k + 1, by omega, rfl, ?_, M⟩
 first
  | (have e := ownB_yes h15; rw [← e]; exact S.sub _ rfl)
  | (have e := ownB_no h15; rw [← e]; exact S.sub _ rfl)
end Go.Proofs.YtkkcehcpffamkaaGreat

namespace Go.Proofs.YtkkcehcpffamkaaGreat
open Go.RowKit Go.Sort
def FirstR (l : List Rc) (p : Rc → Bool) (j : Int) : Prop :=
 (∃ (k : Nat) (q : Rc), j = (k : Int) ∧ l[k]? = some q ∧ p q = true ∧ ∀ (i : Nat) (q : Rc), i < k → l[i]? = some q → p q = false) ∨ (j = -1 ∧ ∀ q ∈ l, p q = false)
theorem firstR_fd {l : List Rc} {nm : Nm} {j : Int} (h : FirstR l (fun q => q.name.eqb nm) j) : j = fdI l nm := by
 unfold fdI
 rcases h with ⟨k, q, rfl, hk, hp, hpre⟩ | ⟨rfl, h⟩
 ·rw [fd_of hk (Nm.eqb_iff.1 hp) fun i r hi hr e => by have h := hpre i r hi hr; simp only [Nm.eqb_iff.2 e] at h; cases h]
 ·rw [fd_no fun r hr e => by have h2 := h r hr; simp only [Nm.eqb_iff.2 e] at h2; cases h2]
set_option maxHeartbeats 400000 in
theorem indexFuncR_any {f : FuncId} {fi ca : List Value} (hE : Enters Tryz.prog f) (va : Option Addr) (vc : Nat) (l : List Rc) (p : Rc → Bool) (w : World) (hv : Rd 0 w.heap.size w 12 (.slice va l.length vc) l.length (rcsC l))
 (hstep : ∀ (x : Rc) (w' : World), Below w.heap.size w w' → Calls Tryz.prog f (fi ++ ([Value.agg x.cL.toArray] ++ ca)).toArray w' (fun e w'' => e = .returned (.bool (p x)) ∧ Below w'.heap.size w' w'')) :
 Calls Tryz.prog 310 #[.slice va l.length vc, .func (.func f) fi.toArray ca.toArray] w (fun e w' => ∃ j, e = .returned (.int .i64 j) ∧ Below w.heap.size w w' ∧ FirstR l p j) := by
 have M := Mem.start w
 have hl := hv.2.1
 unfold maxLen at hl
 refine calls_enter Tryz.func310 rfl 19 rfl rfl ?_; intro a S
 refine nxD (qG [1] S ?_); intro a S
 refine nxC (wp_seq (nxD (qG [1] S ?_))); intro a S
 refine qY S (y_lenS (E := 211) S rfl (by kernel_rfl)) ?_; intro a S
 refine qG [1] S ?_; intro a S
 refine nxC (wp_block (wp_loop_g (fun m a w' => ∃ (k : Nat), k ≤ l.length ∧ m = l.length - k ∧ Sees 19 a [(0, .slice va l.length vc), (1, .func (.func f) fi.toArray ca.toArray), (7, .int .i64 (l.length : Int)), (8, .int .i64 (k : Int))] ∧ Mem w w' [] ∧ ∀ (i : Nat) (q : Rc), i < k → l[i]? = some q → p q = false) (l.length) ?_ ?_))
 ·skip
  exact ⟨0, Nat.zero_le _, rfl, S.sub _ rfl, M, fun i q h => absurd h (by omega)⟩
 intro m a wl
 rintro ⟨k, hk, rfl, S, M, hpre⟩
 refine nxD (qG [1] S ?_); intro a S
 refine nxC (wp_seq (st_fi (t := 9) S rfl ?_ ?_))
 ·intro h9 S
  refine st_condF S rfl (wp_exit (then_exit (then_exit (block_hit (nxE (qG [1] S ?_)))))); intro a S
  refine nxC (wp_ret (end_one S rfl (res_tmp rfl) ?_))
  obtain rfl : k = l.length := by omega
  refine ⟨-1, rfl, M.below, .inr ⟨rfl, fun q hq => ?_⟩⟩
  obtain ⟨i, hi⟩ := List.getElem?_of_mem hq
  exact hpre i q (List.getElem?_eq_some_iff.1 hi).1 hi
 intro h9 S
 refine st_condT S rfl (wp_skip (then_normal (wp_seq (wp_block (nxD (qG [1, 1] S ?_)))))); intro a S
 refine nxC (wp_seq ?_)
 obtain ⟨q, hq⟩ : ∃ q, l[k]? = some q := ⟨_, List.getElem?_eq_getElem (by omega)⟩
 refine wp_region_lit (qG [1, 1, 1] S ?_); intro a S
 refine qY S (y_indexR (e := 211) (sz := 12) S (by kernel_rfl) rfl ((M.arg hv)) rfl (by first | omega | (simp; done) | (simp; omega))) ?_; intro a S
 try simp only [Int.toNat_natCast, Nat.mul_one, Nat.zero_add] at S
 refine qY S (y_loadAgg S (by kernel_rfl) rfl rfl ((M.arg hv).at_.row (i := k) (rcsC_get hq) rfl)) ?_; intro a S
 refine st_callB (xs := [.tmp 15]) (fi := fi) (ca := ca) S (hE) rfl rfl (rfl) rfl (hstep q _ M.below) ?_
 rintro _ w1 ⟨rfl, hK⟩; refine ⟨_, rfl, ?_⟩; intro a S; replace M := M.grow hK
 refine nxC (st_split (t := 16) S rfl ?_ ?_)
 ·intro h16 S
  refine st_condT S rfl (nxD (qG [1, 1] S ?_)); intro a S
  refine nxC (wp_ret (block_ret (then_ret (then_ret (block_ret (then_ret (end_one S rfl (res_tmp rfl) ?_)))))))
  exact ⟨(k : Int), rfl, M.below, .inl ⟨k, q, rfl, hq, h16, hpre⟩⟩
 intro h16 S
 refine st_condF S rfl (wp_skip (block_normal (nxF ?_)))
 (first | refine qY S (y_addN S rfl rfl (by omega)) ?_ | refine qY S (y_int S rfl rfl rfl) ?_); intro a S
 refine qG [1] S ?_; intro a S
 refine nxC ?_
 refine ⟨l.length - (k + 1), by omega, k + 1, by omega, rfl, S.sub _ rfl, M, fun i q' hi hq' => ?_⟩
 rcases Nat.lt_or_ge i k with h | h
 ·exact hpre i q' h hq'
 ·obtain rfl : i = k := by omega
  rw [hq] at hq'; obtain rfl := Option.some.inj hq'; exact h16
theorem findC_any (r : Rc) (nm : Nm) (b : Nat) (w : World) (B : Blk w b nm.cells 47) : Calls Tryz.prog 311 #[.agg r.cL.toArray, .pointer (some ⟨b, 0, none⟩)] w fun e w' => e = .returned (.bool (r.name.eqb nm)) ∧ Below w.heap.size w w' := by
 have M := Mem.start w
 refine calls_enter Tryz.func311 rfl 8 rfl rfl ?_; intro a S
 refine nxD (st_box S M rfl rfl rfl #[_, _, _, _, _, _, _, _, _, _, _, _] rfl ?_); intro a w1 bR S M hB
 refine qG [1] S ?_; intro a S
 refine nxA (qG [2] S ?_); intro a S
 refine qY S (y_loadAgg (cs := [_, _, _]) S (by kernel_rfl) rfl rfl (M.cellsAt (k := 3) 0 rfl rfl)) ?_; intro a S
 refine qY S (y_loadAgg S (by kernel_rfl) rfl rfl (show CellsAt _ b 0 [.int .i64 nm.stamp, .int .i64 nm.inc, .int .i64 nm.try_] from Blk.cellsAt (o := 0) (k := 3) ((M.below.block b B.lt).trans B) rfl)) ?_; intro a S
 refine qY S (y_eqlG (by kernel_rfl) S rfl rfl (fun w => equalNm 9998 r.name nm w)) ?_; intro a S
 refine qG [1] S ?_; intro a S
 refine nxC (wp_ret (end_one S rfl (res_tmp rfl) ?_))
 exact ⟨rfl, M.below⟩
theorem cloneR_any (v : Value) (l : List Rc) (w : World) (hv : Rd 0 w.heap.size w 12 v l.length (rcsC l)) (hl : l.length ≤ 1000000) : Calls Tryz.prog 101 #[v] w fun e w' => ∃ v', e = .returned v' ∧ Fresh w w' 211 12 v' l.length (rcsC l) := by
 have M := Mem.start w
 refine calls_enter Tryz.func101 rfl 8 rfl rfl ?_; intro a S
 refine nxD (qG [1] S ?_); intro a S
 refine nxC (wp_seq (nxD (qG [1] S ?_))); intro a S
 refine qY S (y_eqlNil (e := 211) S rfl (M.arg hv) (by kernel_rfl)) ?_; intro a S
 refine nxC (st_split (t := 4) S rfl ?_ ?_)
 ·intro h4 S
  refine st_condT S rfl (nxD (qG [1] S ?_)); intro a S
  refine nxC (wp_ret (then_ret (end_one S rfl (res_tmp rfl) ?_)))
  obtain ⟨rfl, h0, h1⟩ := hv.nilV h4
  exact ⟨_, rfl, by rw [h1, h0]; exact M.freshNil _ _⟩
 intro h4 S
 refine st_condF S rfl (wp_skip (nxE (st_lit0 (e := 211) (sz := 12) (by_ := 112) (zc := [.int .i8 0, .int .i64 0, .int .i64 0, .int .i64 0, .bool false, .slice none 0 0, .int .i64 0, .int .i64 0, .int .i64 0, .int .i64 0, .int .i64 0, .int .i64 0]) S M rfl rfl (by kernel_rfl) ?_))); intro a w1 b1 S M hB
 refine qG [1] S ?_; intro a S
 replace M := M.toRow (sz := 12) (m := 0) (cap := 0) (xs := []) 0 rfl rfl (Nat.le_refl _) (Nat.zero_le _) rfl rfl
 refine st_append (e := 211) (sz := 12) (by_ := 112) (zc := [.int .i8 0, .int .i64 0, .int .i64 0, .int .i64 0, .bool false, .slice none 0 0, .int .i64 0, .int .i64 0, .int .i64 0, .int .i64 0, .int .i64 0, .int .i64 0]) S M 0 rfl rfl (by kernel_rfl) rfl (by decide) rfl rfl rfl (M.arg hv) (allOne_rcs _) (by omega) (by unfold maxLen; omega) ?_; intro a w2 vA loA hiA S M
 refine qG [1] S ?_; intro a S
 refine nxC (wp_ret (end_one S rfl (res_tmp rfl) ?_))
 exact ⟨_, rfl, by have := M.fresh 0 rfl; rwa [Nat.zero_add, List.nil_append] at this⟩
theorem subA_at12 {g i c sz : Nat} (h : i < c) : subA (some ⟨g, 0, none⟩) i c sz = some ⟨g, i * sz, none⟩ := by
 unfold subA; rw [if_neg (by omega)]; simp [Addr.add]; exact fun h => h.symm
theorem len12 {cs more : List Value} {m c k : Nat} (hl : cs.length = m * 12) (hc : (cs ++ more).length = c * 12) (hk : k < m) :
 ((cs ++ more).take (k * 12) ++ cs.drop ((k + 1) * 12) ++ (cs ++ more).drop (k * 12 + (cs.drop ((k + 1) * 12)).length)) = (cs.take (k * 12) ++ cs.drop ((k + 1) * 12)) ++ (cs ++ more).drop ((m - 1) * 12) := by
 rw [List.take_append_of_le_length (by omega)]
 congr 2
 rw [List.length_drop, hl]; omega
abbrev zRc : List Value := [.int .i8 0, .int .i64 0, .int .i64 0, .int .i64 0, .bool false, .slice none 0 0, .int .i64 0, .int .i64 0, .int .i64 0, .int .i64 0, .int .i64 0, .int .i64 0]
set_option maxHeartbeats 1000000 in
theorem deleteR_any {wc w : World} {H : List Ent} {g m c k : Nat} {cs more : List Value} (M : Mem wc w (.blk g (cs ++ more).toArray 211 :: H)) (hl : cs.length = m * 12) (h1 : allOne (cs.drop ((k + 1) * 12)) = true) (hcs : (cs ++ more).length = c * 12) (hmc : m ≤ c) (hc : c ≤ maxLen) (hk : k < m) :
 Calls Tryz.prog 225 #[.slice (some ⟨g, 0, none⟩) m c, .int .i64 (k : Int), .int .i64 ((k : Int) + 1)] w fun e w' => e = .returned (.slice (some ⟨g, 0, none⟩) (m - 1) c) ∧
  ∃ more', ((cs.take (k * 12) ++ cs.drop ((k + 1) * 12)) ++ more').length = c * 12 ∧ Mem wc w' (.blk g ((cs.take (k * 12) ++ cs.drop ((k + 1) * 12)) ++ more').toArray 211 :: H) := by
 refine calls_enter Tryz.func225 rfl 33 rfl rfl ?_; intro a S
 refine wp_seq ?_
 skip
 refine wp_region_lit (qG [1] S ?_); intro a S
 refine nxA (qG [1, 1, 1, 1] S ?_); intro a S
 refine qY S (y_lenS (E := 211) S rfl (by kernel_rfl)) ?_; intro a S
 refine qY S (y_slice3 (e := 211) (sz := 12) S (by kernel_rfl) rfl rfl rfl rfl (by first | omega | (simp; done) | (simp; omega))) ?_; intro a S
 refine nxC (wp_seq (nxD (qG [1, 1, 1] S ?_))); intro a S
 refine nxC (st_if (t := 16) S rfl ?_ ?_)
 ·intro h16 S
  exfalso; omega
 intro h16 S
 refine st_condF S rfl (wp_skip (nxE (qG [1] S ?_))); intro a S
 refine qY S (y_lenS (E := 211) S rfl (by kernel_rfl)) ?_; intro a S
 refine qG [1] S ?_; intro a S
 refine nxC (wp_seq (wp_regionK [6] #[false, false, false, false, false, false, false, false] rfl M (by kernel_rfl) ?_)); intro w1 M
 refine k_pure 0 S rfl (fun w => y_move S rfl) ?_; intro a S
 refine k_pure 1 S rfl (fun w => y_move S rfl) ?_; intro a S
 refine k_pure 2 S rfl (fun w => y_slice02 (e := 211) (sz := 12) S (by kernel_rfl) rfl rfl (by first | omega | (simp; done) | (simp; omega))) ?_; intro a S
 refine k_pure 3 S rfl (fun w => y_move S rfl) ?_; intro a S
 refine k_pure 4 S rfl (fun w => y_move S rfl) ?_; intro a S
 refine k_pure 5 S rfl (fun w => y_slice1 (e := 211) (sz := 12) S (by kernel_rfl) rfl rfl (by first | omega | (simp; done) | (simp; omega))) ?_; intro a S
 refine k_one 6 rfl (by kernel_rfl) ?_
 simp only [Int.toNat_natCast, show ((k : Int) + 1).toNat = k + 1 by omega] at S
 have hR : Rd g (g + 1) w1 12 (.slice (some ⟨g, 0, none⟩) m c) m cs := Rd.of_blk (M.blk 0 rfl) hl hmc hc (by rw [List.toList_toArray, ← hl]; exact List.take_left)
 have hcell : CellsAt w1 g ((k + 1) * 12) (cs.drop ((k + 1) * 12)) := fun j hj => by
  rw [List.length_drop] at hj
  have := hR.at_ ((k + 1) * 12 + j) (by omega)
  simp only [adr, Nat.zero_add] at this
  rw [this, List.getElem?_drop]
 obtain ⟨o2, ho2, hcell2⟩ : ∃ o2, subA (some ⟨g, 0, none⟩) (k + 1) c 12 = some ⟨g, o2, none⟩ ∧ CellsAt w1 g o2 (cs.drop ((k + 1) * 12)) := by
  rcases Nat.lt_or_ge (k + 1) c with h | h
  ·exact ⟨_, subA_at12 h, hcell⟩
  ·refine ⟨0, by unfold subA; rw [if_pos (by omega)], ?_⟩
   rw [List.drop_of_length_le (by omega)]; intro j hj; simp at hj
 rw [ho2] at S
 refine st_appendIn (e := 211) (sz := 12) (zc := zRc) (by_ := 112) (news := cs.drop ((k + 1) * 12)) S M 0 rfl rfl (by kernel_rfl) rfl rfl rfl hcell2 (by rw [List.length_drop]; omega) h1 (by omega) hcs ?_; intro a wA S M
 rw [len12 hl hcs hk, show k + (m - (k + 1)) = m - 1 by omega] at *
 simp only [List.set_cons_zero] at M
 refine nxC ⟨fun h => absurd h (by decide), ?_⟩
 refine k_pure 7 S rfl (fun w => y_assign S rfl) ?_; intro a S
 refine k_end (by kernel_rfl) ?_
 replace S := S.keep [1, 2, 6, 16, 7, 0]
 refine then_normal (wp_seq ?_)
 have hXl : ((cs.take (k * 12) ++ cs.drop ((k + 1) * 12)) ++ (cs ++ more).drop ((m - 1) * 12)).length = c * 12 := by
  rw [List.length_append] at hcs
  simp only [List.length_append, List.length_take, List.length_drop]; omega
 refine wp_region_lit (qG [1, 1] S ?_); intro a S
 refine qY S (y_lenS (E := 211) S rfl (by kernel_rfl)) ?_; intro a S
 refine qG [1] S ?_; intro a S
 refine qY S (y_slice2 (e := 211) (sz := 12) S (by kernel_rfl) rfl rfl rfl (by first | omega | (simp; done) | (simp; omega))) ?_; intro a S
 simp only [Int.toNat_natCast] at S
 rw [subA_at12 (by omega), show m - (m - 1) = 1 by omega] at S
 refine st_clear1N (e := 211) (sz := 12) (zc := zRc) (by_ := 112) S M 0 rfl (by kernel_rfl) rfl rfl rfl (by rw [hXl]; show _ + 12 ≤ _; omega) ?_; intro wB M
 simp only [List.set_cons_zero] at M
 refine nxA (qG [1, 1] S ?_); intro a S
 refine nxC (wp_ret (end_one S rfl (res_tmp rfl) ?_))
 refine ⟨rfl, (putL ((cs.take (k * 12) ++ cs.drop ((k + 1) * 12)) ++ (cs ++ more).drop ((m - 1) * 12)) ((m - 1) * 12) zRc).drop ((m - 1) * 12), ?_, ?_⟩
 ·rw [List.length_append, List.length_drop, putL_length, hXl]
  simp only [List.length_append, List.length_take, List.length_drop]; omega
 ·have hXm : (cs.take (k * 12) ++ cs.drop ((k + 1) * 12)).length = (m - 1) * 12 := by simp only [List.length_append, List.length_take, List.length_drop]; omega
  have e := putL_ahead (us := zRc) (l := (cs.take (k * 12) ++ cs.drop ((k + 1) * 12)) ++ (cs ++ more).drop ((m - 1) * 12)) (o := (m - 1) * 12) (i := 0) (k := (m - 1) * 12) (by rw [hXl]; show _ + 12 ≤ _; omega) (by omega)
  rw [List.drop_zero, List.drop_zero] at e
  have e2 : (cs.take (k * 12) ++ cs.drop ((k + 1) * 12) ++ (cs ++ more).drop ((m - 1) * 12)).take ((m - 1) * 12) = cs.take (k * 12) ++ cs.drop ((k + 1) * 12) := by rw [← hXm, List.take_left]
  have e3 := e.trans e2
  generalize putL (cs.take (k * 12) ++ cs.drop ((k + 1) * 12) ++ (cs ++ more).drop ((m - 1) * 12)) ((m - 1) * 12) zRc = Z at *
  have e4 : cs.take (k * 12) ++ cs.drop ((k + 1) * 12) ++ Z.drop ((m - 1) * 12) = Z := (congrArg (· ++ Z.drop ((m - 1) * 12)) e3.symm).trans (List.take_append_drop _ _)
  rw [e4]; exact M
end Go.Proofs.YtkkcehcpffamkaaGreat

namespace Go.Proofs.YtkkcehcpffamkaaGreat
open Go.RowKit Go.Sort
theorem rd_rcs {wc w : World} {H : List Ent} {lo hi : Nat} {v : Value} {l : List Rc} (M : Mem wc w H) {p : Nat} (h : H[p]? = some (rowE lo hi 211 12 v l.length (rcsC l))) (hl : l.length ≤ 1000) : Rd 0 w.heap.size w 12 v l.length (rcsC l) := M.readAll p h (by unfold maxLen; omega)
abbrev opV (va : Option Addr) (vc : Nat) (op : List Rc) : Value := .slice va op.length vc
abbrev opE (lo hi : Nat) (va : Option Addr) (vc : Nat) (op : List Rc) : Ent := rowE lo hi 211 12 (opV va vc op) op.length (rcsC op)
theorem Blk.cells0 {w : World} {b : Nat} {cs : Array Value} {t : TypeId} (B : Blk w b cs t) {w' : World} (hb : Below w.heap.size w w') : Blk w' b cs t := (hb.block b B.lt).trans B
theorem Ls.end_no {s : Ls} {nm : Nm} (h : fd s.op nm = none) : s.end_ nm = s := by unfold Ls.end_ endL; rw [h]
theorem Ls.end_yes {s : Ls} {nm : Nm} {k : Nat} (h : fd s.op nm = some k) : s.end_ nm = { s with op := s.op.eraseIdx k } := by unfold Ls.end_ endL; rw [h]
theorem stC_map (s : Ls) (v : Value) {k : Nat} (x : Int) (h : k < 8) : putL (stC s v) (14 + k) [.int .i64 x] = stC { s with cu := s.cu.mSet k x } v := by
 rcases lt8 h with rfl | rfl | rfl | rfl | rfl | rfl | rfl | rfl <;> rfl
theorem lgC_map {d : Value} (s : Ls) (v : Value) {k : Nat} (x : Int) (h : k < 8) : putL (lgC d s v) (15 + k) [.int .i64 x] = lgC d { s with cu := s.cu.mSet k x } v := by
 rcases lt8 h with rfl | rfl | rfl | rfl | rfl | rfl | rfl | rfl <;> rfl
def Ls.comm (s : Ls) (r : Rc) : Ls := { s with op := commitL s.op r }
theorem Ls.comm_yes {s : Ls} {r : Rc} {k : Nat} (h : fd s.op r.name = some k) : s.comm r = { s with op := s.op.set k r } := by unfold Ls.comm commitL; rw [h]
theorem Ls.comm_no {s : Ls} {r : Rc} (h : fd s.op r.name = none) : s.comm r = { s with op := s.op ++ [r] } := by unfold Ls.comm commitL; rw [h]
theorem Ls.commit_no {s : Ls} {r : Rc} (h : ¬ 0 ≤ r.cs) : s.commit r = s.comm r := by unfold Ls.commit; rw [if_neg h]; rfl
theorem Ls.commit_yes {s : Ls} {r : Rc} (h : 0 ≤ r.cs) : s.commit r = { s.comm r with cu := s.cu.mSet r.cs.toNat r.ct } := by unfold Ls.commit; rw [if_pos h]; rfl
set_option maxHeartbeats 400000 in
theorem find0_any {b : Nat} (s : Ls) (va : Option Addr) (vc : Nat) (nm : Nm) (w : World) (B : Blk w b (stC s (opV va vc s.op)).toArray 204) (hv : Rd 0 w.heap.size w 12 (opV va vc s.op) s.op.length (rcsC s.op)) :
 Calls Tryz.prog 224 #[.pointer (some ⟨b, 0, none⟩), .agg nm.cells] w fun e w' => e = .returned (.int .i64 (fdI s.op nm)) ∧ Below w.heap.size w w' := by
 have M := Mem.start w
 refine calls_enter Tryz.func224 rfl 11 rfl rfl ?_; intro a S
 refine nxD (st_box S M rfl rfl rfl #[_, _, _] rfl ?_); intro a w1 bX S M hB
 refine qG [1] S ?_; intro a S
 refine nxA (qG [1, 1, 25] S ?_); intro a S
 refine qY S (y_load S (by kernel_rfl) rfl (by rw [(B.cells0 M.below).cells]; rfl)) ?_; intro a S
 refine qY S (y_makeFunc (fs := []) (cs := [.tmp 3]) S rfl rfl) ?_; intro a S
 refine qC (xs := [.tmp 8, .tmp 9]) S (qE Tryz.func310) rfl (indexFuncR_any (fi := []) (ca := [.pointer (some ⟨bX, 0, none⟩)]) (enters_of Tryz.func311 (by decide) rfl) va vc s.op (fun q => q.name.eqb nm) _ (M.argW hv) (fun q w' hb => findC_any q nm bX w' ((hb.block bX (M.blk 0 rfl).lt).trans (M.blk 0 rfl)))) ?_
 rintro _ w2 ⟨j, rfl, hK, hj⟩; refine ⟨_, rfl, ?_⟩; intro a S; replace M := M.grow hK
 obtain rfl := firstR_fd hj
 refine qG [1] S ?_; intro a S
 refine nxC (wp_ret (end_one S rfl (res_tmp rfl) ?_))
 exact ⟨rfl, M.below⟩
set_option maxHeartbeats 400000 in
theorem stamps0_any {wc w : World} {H : List Ent} {b : Nat} (s : Ls) (v : Value) (r : Rc) (wv : Value) (M : Mem wc w (.blk b (stC s v).toArray 204 :: H)) :
 Calls Tryz.prog 148 #[.pointer (some ⟨b, 0, none⟩), .agg (r.cells wv)] w fun e w' => e = .returned (.tuple #[]) ∧ Mem wc w' (.blk b (stC (s.stamps r.n) v).toArray 204 :: H) := by
 refine calls_enter Tryz.func148 rfl 9 rfl rfl ?_; intro a S
 refine wp_seq ?_
 skip
 refine wp_region_lit (st_box S M rfl rfl rfl #[_, _, _, _, _, _, _, _, _, _, _, _] rfl ?_); intro a w1 bX S M hB
 refine nxB (qR [1, 12, 1, 1, 14] S M ?_); intro a S
 refine qS (sz := 1) (us := [_]) S M 1 ?_; intro w2 M
 refine wpList_nil (end_noneN S rfl ?_)
 exact ⟨rfl, M.drop 0⟩
set_option maxHeartbeats 1000000 in
theorem end0_any {wc w : World} {H : List Ent} {b lo hi : Nat} (s : Ls) (va : Option Addr) (vc : Nat) (r : Rc) (wv : Value) (M : Mem wc w (.blk b (stC s (opV va vc s.op)).toArray 204 :: opE lo hi va vc s.op :: H)) (hl : s.op.length ≤ 1000) :
 Calls Tryz.prog 147 #[.pointer (some ⟨b, 0, none⟩), .agg (r.cells wv)] w fun e w' => e = .returned (.tuple #[]) ∧ ∃ lo2 hi2 va2 vc2, Mem wc w' (.blk b (stC (s.end_ r.name) (opV va2 vc2 (s.end_ r.name).op)).toArray 204 :: opE lo2 hi2 va2 vc2 (s.end_ r.name).op :: H) := by
 refine calls_enter Tryz.func147 rfl 22 rfl rfl ?_; intro a S
 refine wp_seq ?_
 skip
 refine wp_region_lit (st_box S M rfl rfl rfl #[_, _, _, _, _, _, _, _, _, _, _, _] rfl ?_); intro a w1 bX S M hB
 refine nxA (qG [1, 2] S ?_); intro a S
 refine qY S (y_loadAgg (cs := [_, _, _]) S (by kernel_rfl) rfl rfl (M.cellsAt (k := 3) 0 rfl rfl)) ?_; intro a S
 refine qQ (xs := [.tmp 5, .tmp 7]) S (qE Tryz.func224) rfl (find0_any s va vc r.name _ (M.blk 1 rfl) (rd_rcs M (p := 2) rfl hl)) M ?_; intro a w2 S hK M
 refine qG [1] S ?_; intro a S
 refine nxA (qG [1, 1] S ?_); intro a S
 refine nxC (st_fi (t := 10) S rfl ?_ ?_)
 ·intro h10 S
  refine st_condF S rfl (wp_skip (end_noneN S rfl ?_))
  first
   | (rw [Ls.end_no (fdI_neg (by omega))]
      exact ⟨rfl, _, _, _, _, M.drop 0⟩)
   | (rw [Ls.end_yes hk]
      exact ⟨rfl, _, _, _, _, (M.drop 1).perm (List.Perm.swap _ _ _)⟩)
 intro h10 S
 refine st_condT S rfl ?_
 obtain ⟨k, hk, hke⟩ := fdI_nn h10
 have hkl := fd_lt hk
 rw [hke] at S
 have hel : (s.op.eraseIdx k).length = s.op.length - 1 := by rw [List.length_eraseIdx, if_pos hkl]
 replace M := M.frn 2
 obtain ⟨g, cap, more, hv9, hmc, hcm, hlen, M1⟩ := M.ofRow (by omega)
 cases hv9
 have hle9 : (s.op.eraseIdx k).length ≤ vc := by omega
 clear M; have M := M1; clear M1
 refine wp_region_lit (qR [1, 1, 1, 25, 3, 1, 1] S M ?_); intro a S
 (first | refine qY S (y_addN S rfl rfl (by omega)) ?_ | refine qY S (y_int S rfl rfl rfl) ?_); intro a S
 refine qC (xs := [.tmp 15, .tmp 16, .tmp 18]) S (qE Tryz.func225) rfl (deleteR_any M (rcsC_len _) (by rw [rcsC_drop _ (by omega)]; exact allOne_rcs _) hlen hmc hcm hkl) ?_
 rintro _ w3 ⟨rfl, more2, hl2, M2⟩; refine ⟨_, rfl, ?_⟩; intro a S
 rw [rcsC_erase _ hkl, ← hel] at *
 have M := M2.toRow (sz := 12) (m := (s.op.eraseIdx k).length) (cap := vc) (xs := rcsC (s.op.eraseIdx k)) 0 rfl (rcsC_len _) hle9 hcm (by simpa using hl2) (by rw [List.toList_toArray, ← rcsC_len]; exact List.take_left)
 clear M2
 simp only [List.eraseIdx_cons_zero] at M
 refine qG [1, 25] S ?_; intro a S
 refine qS (sz := 1) (us := [_]) S M 2 ?_; intro w4 M
 replace S := S.keep [0, 1, 3, 4, 10]
 refine wpList_nil (end_noneN S rfl ?_)
 first
  | (rw [Ls.end_no (fdI_neg (by omega))]
     exact ⟨rfl, _, _, _, _, M.drop 0⟩)
  | (rw [Ls.end_yes hk]
     exact ⟨rfl, _, _, _, _, (M.drop 1).perm (List.Perm.swap _ _ _)⟩)
set_option maxHeartbeats 1000000 in
theorem commit0_any {wc w : World} {H : List Ent} {b lo hi : Nat} (s : Ls) (va : Option Addr) (vc : Nat) (r : Rc) (wv : Value) (M : Mem wc w (.blk b (stC s (opV va vc s.op)).toArray 204 :: opE lo hi va vc s.op :: H)) (hl : s.op.length ≤ 1000) (hc : r.cs < 8) :
 Calls Tryz.prog 146 #[.pointer (some ⟨b, 0, none⟩), .agg (r.cells wv)] w fun e w' => e = .returned (.tuple #[]) ∧ ∃ lo2 hi2 va2 vc2, Mem wc w' (.blk b (stC (s.commit r) (opV va2 vc2 (s.commit r).op)).toArray 204 :: opE lo2 hi2 va2 vc2 (s.commit r).op :: H) := by
 refine calls_enter Tryz.func146 rfl 43 rfl rfl ?_; intro a S
 refine wp_seq ?_
 skip
 refine wp_region_lit (st_box S M rfl rfl rfl #[_, _, _, _, _, _, _, _, _, _, _, _] rfl ?_); intro a w1 bX S M hB
 refine nxA (qG [6] S ?_); intro a S
 refine qS (sz := 1) (us := [_]) S M 0 ?_; intro w2 M
 refine nxC (wp_seq (nxD (qG [1, 2] S ?_))); intro a S
 refine qY S (y_loadAgg (cs := [_, _, _]) S (by kernel_rfl) rfl rfl (M.cellsAt (k := 3) 0 rfl rfl)) ?_; intro a S
 refine qQ (xs := [.tmp 6, .tmp 8]) S (qE Tryz.func224) rfl (find0_any s va vc r.name _ (M.blk 1 rfl) (rd_rcs M (p := 2) rfl hl)) M ?_; intro a w3 S hK M
 refine qG [1] S ?_; intro a S
 refine nxA (qG [1, 1] S ?_); intro a S
 refine nxC (st_if (t := 11) S rfl ?_ ?_)
 ·intro h11 S
  refine st_condT S rfl ?_
  obtain ⟨k, hk, hke⟩ := fdI_nn h11
  have hkl := fd_lt hk
  rw [hke] at S
  refine wp_regionK [7] #[false, false, false, false, false, false, false, false] rfl M (by kernel_rfl) ?_; intro w4 M
  refine k_pure 0 S rfl (fun w => y_move S rfl) ?_; intro a S
  refine k_pure 1 S rfl (fun w => y_nilCheck S rfl) ?_; intro a S
  refine k_pure 2 S rfl (fun w => y_fieldAddr (k := 24) S (by kernel_rfl) rfl) ?_; intro a S
  refine k_read 3 S rfl (fun w hW => have M := M.grow hW; y_load S (by kernel_rfl) rfl (M.cell 1 rfl ((show _ = some (opV va vc s.op) from rfl)))) ?_; intro a S
  refine k_pure 4 S rfl (fun w => y_move S rfl) ?_; intro a S
  refine k_read 5 S rfl (fun w hW => have M := M.grow hW; y_loadAgg (cs := [_, _, _, _, _, _, _, _, _, _, _, _]) S (by kernel_rfl) rfl rfl (M.cellsAt (k := 12) 0 rfl rfl)) ?_; intro a S
  refine k_read 6 S rfl (fun w hW => have M := M.grow hW; y_indexR (e := 211) (sz := 12) S (by kernel_rfl) rfl (rd_rcs M (p := 2) rfl hl) rfl (by first | omega | (simp; done) | (simp; omega))) ?_; intro a S
  try simp only [Int.toNat_natCast, Nat.mul_one, Nat.zero_add] at S
  refine k_one 7 rfl (by kernel_rfl) ?_
  refine st_storeRow (v := opV va vc s.op) (sz := 12) (m := s.op.length) (j := k * 12) (us := r.cL) S M 2 rfl (by kernel_rfl) rfl rfl (by first | rfl | omega | (simp only [Int.toNat_natCast]; omega)) rfl rfl rfl rfl rfl (by omega) (rcsC_len _) (by rw [rcsC_len]; show k * 12 + 12 ≤ _; omega) ?_; intro wz lo9 hi9 M
  simp only [List.eraseIdx_cons_succ, List.eraseIdx_cons_zero] at M
  rw [rcsC_set _ hkl] at M
  refine nxC ⟨fun h => absurd h (by decide), ?_⟩
  refine k_end (by kernel_rfl) ?_
  refine nxE (qR [10, 1, 2, 1] S M ?_); intro a S
  replace S := S.keep [0, 1, 3, 4, 11, 32]
  refine nxC (st_fi (t := 32) S rfl ?_ ?_)
  ·intro h32 S
   refine st_condF S rfl (wp_skip (end_noneN S rfl ?_))
   first
    | (rw [Ls.commit_no (by omega), Ls.comm_yes hk]
       have M3 := (M.drop 1).perm (List.Perm.swap _ _ _)
       exact ⟨rfl, _, _, _, _, by simpa only [opE, opV, List.length_set] using M3⟩)
    | (rw [Ls.commit_no (by omega), Ls.comm_no (fdI_neg (by omega))]
       exact ⟨rfl, _, _, _, _, ((M.drop 1).drop 1).perm (List.Perm.swap _ _ _)⟩)
    | (rw [Ls.commit_yes (by omega), Ls.comm_yes hk]
       have M3 := (M.drop 1).perm (List.Perm.swap _ _ _)
       rw [stC_map _ _ _ (by omega)] at M3
       exact ⟨rfl, _, _, _, _, by simpa only [opE, opV, List.length_set] using M3⟩)
    | (rw [Ls.commit_yes (by omega), Ls.comm_no (fdI_neg (by omega))]
       have M3 := ((M.drop 1).drop 1).perm (List.Perm.swap _ _ _)
       rw [stC_map _ _ _ (by omega)] at M3
       exact ⟨rfl, _, _, _, _, M3⟩)
  intro h32 S
  refine st_condT S rfl (wp_regionK [10] #[false, false, false, false, false, false, false, false, false, false, false] rfl M (by kernel_rfl) ?_); intro w5 M
  refine k_pure 0 S rfl (fun w => y_move S rfl) ?_; intro a S
  refine k_pure 1 S rfl (fun w => y_fieldAddr (k := 9) S (by kernel_rfl) rfl) ?_; intro a S
  refine k_pure 2 S rfl (fun w => y_fieldAddr (k := 0) S (by kernel_rfl) rfl) ?_; intro a S
  refine k_read 3 S rfl (fun w hW => have M := M.grow hW; y_load S (by kernel_rfl) rfl (M.cell 1 rfl rfl)) ?_; intro a S
  refine k_pure 4 S rfl (fun w => y_fieldAddr (k := 9) S (by kernel_rfl) rfl) ?_; intro a S
  refine k_pure 5 S rfl (fun w => y_fieldAddr (k := 1) S (by kernel_rfl) rfl) ?_; intro a S
  refine k_read 6 S rfl (fun w hW => have M := M.grow hW; y_load S (by kernel_rfl) rfl (M.cell 1 rfl ((show _ = some (Value.int .i64 r.ct) from rfl)))) ?_; intro a S
  refine k_pure 7 S rfl (fun w => y_nilCheck S rfl) ?_; intro a S
  refine k_pure 8 S rfl (fun w => y_fieldAddr (k := 14) S (by kernel_rfl) rfl) ?_; intro a S
  refine k_pure 9 S rfl (fun w => y_indexA (m := 8) (sz := 1) S (by kernel_rfl) rfl rfl (by first | omega | (simp; done) | (simp; omega))) ?_; intro a S
  try simp only [Int.toNat_natCast, Nat.mul_one, Nat.zero_add] at S
  refine k_one 10 rfl (by kernel_rfl) ?_
  refine st_store (sz := 1) (us := [_]) S M 2 rfl (by kernel_rfl) rfl rfl rfl rfl rfl rfl (by first | (show 14 + r.cs.toNat + 1 ≤ 25; omega) | (show 15 + r.cs.toNat + 1 ≤ 26; omega)) ?_; intro w6 M
  simp only [List.set_cons_zero, List.set_cons_succ] at M
  refine nxC ⟨fun h => absurd h (by decide), ?_⟩
  refine k_end (by kernel_rfl) ?_
  refine end_noneN S rfl ?_
  first
   | (rw [Ls.commit_no (by omega), Ls.comm_yes hk]
      have M3 := (M.drop 1).perm (List.Perm.swap _ _ _)
      exact ⟨rfl, _, _, _, _, by simpa only [opE, opV, List.length_set] using M3⟩)
   | (rw [Ls.commit_no (by omega), Ls.comm_no (fdI_neg (by omega))]
      exact ⟨rfl, _, _, _, _, ((M.drop 1).drop 1).perm (List.Perm.swap _ _ _)⟩)
   | (rw [Ls.commit_yes (by omega), Ls.comm_yes hk]
      have M3 := (M.drop 1).perm (List.Perm.swap _ _ _)
      rw [stC_map _ _ _ (by omega)] at M3
      exact ⟨rfl, _, _, _, _, by simpa only [opE, opV, List.length_set] using M3⟩)
   | (rw [Ls.commit_yes (by omega), Ls.comm_no (fdI_neg (by omega))]
      have M3 := ((M.drop 1).drop 1).perm (List.Perm.swap _ _ _)
      rw [stC_map _ _ _ (by omega)] at M3
      exact ⟨rfl, _, _, _, _, M3⟩)
 intro h11 S
 refine st_condF S rfl (wp_regionK [7, 10] #[false, false, false, false, false, false, false, false, false, false, false] rfl M (by kernel_rfl) ?_); intro w7 M
 refine k_pure 0 S rfl (fun w => y_move S rfl) ?_; intro a S
 refine k_pure 1 S rfl (fun w => y_move S rfl) ?_; intro a S
 refine k_pure 2 S rfl (fun w => y_nilCheck S rfl) ?_; intro a S
 refine k_pure 3 S rfl (fun w => y_fieldAddr (k := 24) S (by kernel_rfl) rfl) ?_; intro a S
 refine k_read 4 S rfl (fun w hW => have M := M.grow hW; y_load S (by kernel_rfl) rfl (M.cell 1 rfl ((show _ = some (opV va vc s.op) from rfl)))) ?_; intro a S
 refine k_read 5 S rfl (fun w hW => have M := M.grow hW; y_loadAgg (cs := [_, _, _, _, _, _, _, _, _, _, _, _]) S (by kernel_rfl) rfl rfl (M.cellsAt (k := 12) 0 rfl rfl)) ?_; intro a S
 refine k_one 6 rfl (by kernel_rfl) ?_
 refine st_lit (ps := [(0, .tmp 24)]) (e := 211) (sz := 12) (zl := [.int .i8 0, .int .i64 0, .int .i64 0, .int .i64 0, .bool false, .slice none 0 0, .int .i64 0, .int .i64 0, .int .i64 0, .int .i64 0, .int .i64 0, .int .i64 0]) (cs := [_, _, _, _, _, _, _, _, _, _, _, _]) S M rfl rfl (by kernel_rfl) rfl (rfl) ?_; intro a w8 bN S M hB
 refine nxC ⟨fun _ => hB, ?_⟩
 refine k_one 7 rfl (by kernel_rfl) ?_
 refine st_append (e := 211) (sz := 12) (by_ := 112) (zc := [.int .i8 0, .int .i64 0, .int .i64 0, .int .i64 0, .bool false, .slice none 0 0, .int .i64 0, .int .i64 0, .int .i64 0, .int .i64 0, .int .i64 0, .int .i64 0]) S M 3 rfl rfl (by kernel_rfl) rfl (by decide) rfl rfl rfl (show Rd _ _ _ 12 _ 1 r.cL from M.sliceAt 0 rfl (M.cellsAt (k := 12) 0 rfl rfl) rfl (Nat.le_refl _) (by unfold maxLen; omega)) (rfl) (by omega) (by unfold maxLen; omega) ?_; intro a w9 vA loA hiA S M
 refine nxC ⟨fun h => absurd h (by decide), ?_⟩
 refine k_pure 8 S rfl (fun w => y_nilCheck S rfl) ?_; intro a S
 refine k_pure 9 S rfl (fun w => y_fieldAddr (k := 24) S (by kernel_rfl) rfl) ?_; intro a S
 refine k_one 10 rfl (by kernel_rfl) ?_
 obtain ⟨aA, cA, rfl, -, -⟩ := (M.readAll 0 rfl (by unfold maxLen; omega)).form
 rw [← rcsC_snoc] at M
 have hsn : s.op.length + 1 = (s.op ++ [r]).length := by rw [List.length_append]; rfl
 rw [hsn] at S M
 refine qS (sz := 1) (us := [_]) S M 3 ?_; intro w10 M
 refine nxC ⟨fun h => absurd h (by decide), ?_⟩
 refine k_end (by kernel_rfl) ?_
 replace S := S.keep [0, 1, 3, 4, 11]
 refine nxE (qR [10, 1, 3, 1] S M ?_); intro a S
 refine nxC (st_fi (t := 32) S rfl ?_ ?_)
 ·intro h32 S
  refine st_condF S rfl (wp_skip (end_noneN S rfl ?_))
  first
   | (rw [Ls.commit_no (by omega), Ls.comm_yes hk]
      have M3 := (M.drop 1).perm (List.Perm.swap _ _ _)
      exact ⟨rfl, _, _, _, _, by simpa only [opE, opV, List.length_set] using M3⟩)
   | (rw [Ls.commit_no (by omega), Ls.comm_no (fdI_neg (by omega))]
      exact ⟨rfl, _, _, _, _, ((M.drop 1).drop 1).perm (List.Perm.swap _ _ _)⟩)
   | (rw [Ls.commit_yes (by omega), Ls.comm_yes hk]
      have M3 := (M.drop 1).perm (List.Perm.swap _ _ _)
      rw [stC_map _ _ _ (by omega)] at M3
      exact ⟨rfl, _, _, _, _, by simpa only [opE, opV, List.length_set] using M3⟩)
   | (rw [Ls.commit_yes (by omega), Ls.comm_no (fdI_neg (by omega))]
      have M3 := ((M.drop 1).drop 1).perm (List.Perm.swap _ _ _)
      rw [stC_map _ _ _ (by omega)] at M3
      exact ⟨rfl, _, _, _, _, M3⟩)
 intro h32 S
 refine st_condT S rfl (wp_regionK [10] #[false, false, false, false, false, false, false, false, false, false, false] rfl M (by kernel_rfl) ?_); intro w11 M
 refine k_pure 0 S rfl (fun w => y_move S rfl) ?_; intro a S
 refine k_pure 1 S rfl (fun w => y_fieldAddr (k := 9) S (by kernel_rfl) rfl) ?_; intro a S
 refine k_pure 2 S rfl (fun w => y_fieldAddr (k := 0) S (by kernel_rfl) rfl) ?_; intro a S
 refine k_read 3 S rfl (fun w hW => have M := M.grow hW; y_load S (by kernel_rfl) rfl (M.cell 2 rfl rfl)) ?_; intro a S
 refine k_pure 4 S rfl (fun w => y_fieldAddr (k := 9) S (by kernel_rfl) rfl) ?_; intro a S
 refine k_pure 5 S rfl (fun w => y_fieldAddr (k := 1) S (by kernel_rfl) rfl) ?_; intro a S
 refine k_read 6 S rfl (fun w hW => have M := M.grow hW; y_load S (by kernel_rfl) rfl (M.cell 2 rfl ((show _ = some (Value.int .i64 r.ct) from rfl)))) ?_; intro a S
 refine k_pure 7 S rfl (fun w => y_nilCheck S rfl) ?_; intro a S
 refine k_pure 8 S rfl (fun w => y_fieldAddr (k := 14) S (by kernel_rfl) rfl) ?_; intro a S
 refine k_pure 9 S rfl (fun w => y_indexA (m := 8) (sz := 1) S (by kernel_rfl) rfl rfl (by first | omega | (simp; done) | (simp; omega))) ?_; intro a S
 try simp only [Int.toNat_natCast, Nat.mul_one, Nat.zero_add] at S
 refine k_one 10 rfl (by kernel_rfl) ?_
 refine st_store (sz := 1) (us := [_]) S M 3 rfl (by kernel_rfl) rfl rfl rfl rfl rfl rfl (by first | (show 14 + r.cs.toNat + 1 ≤ 25; omega) | (show 15 + r.cs.toNat + 1 ≤ 26; omega)) ?_; intro w12 M
 simp only [List.set_cons_zero, List.set_cons_succ] at M
 refine nxC ⟨fun h => absurd h (by decide), ?_⟩
 refine k_end (by kernel_rfl) ?_
 refine end_noneN S rfl ?_
 first
  | (rw [Ls.commit_no (by omega), Ls.comm_yes hk]
     have M3 := (M.drop 1).perm (List.Perm.swap _ _ _)
     exact ⟨rfl, _, _, _, _, by simpa only [opE, opV, List.length_set] using M3⟩)
  | (rw [Ls.commit_no (by omega), Ls.comm_no (fdI_neg (by omega))]
     exact ⟨rfl, _, _, _, _, ((M.drop 1).drop 1).perm (List.Perm.swap _ _ _)⟩)
  | (rw [Ls.commit_yes (by omega), Ls.comm_yes hk]
     have M3 := (M.drop 1).perm (List.Perm.swap _ _ _)
     rw [stC_map _ _ _ (by omega)] at M3
     exact ⟨rfl, _, _, _, _, by simpa only [opE, opV, List.length_set] using M3⟩)
  | (rw [Ls.commit_yes (by omega), Ls.comm_no (fdI_neg (by omega))]
     have M3 := ((M.drop 1).drop 1).perm (List.Perm.swap _ _ _)
     rw [stC_map _ _ _ (by omega)] at M3
     exact ⟨rfl, _, _, _, _, M3⟩)
set_option maxHeartbeats 400000 in
theorem find1_any {b : Nat} (dv : Value) (s : Ls) (va : Option Addr) (vc : Nat) (nm : Nm) (w : World) (B : Blk w b (lgC dv s (opV va vc s.op)).toArray 206) (hv : Rd 0 w.heap.size w 12 (opV va vc s.op) s.op.length (rcsC s.op)) :
 Calls Tryz.prog 224 #[.pointer (some ⟨b, 1, none⟩), .agg nm.cells] w fun e w' => e = .returned (.int .i64 (fdI s.op nm)) ∧ Below w.heap.size w w' := by
 have M := Mem.start w
 refine calls_enter Tryz.func224 rfl 11 rfl rfl ?_; intro a S
 refine nxD (st_box S M rfl rfl rfl #[_, _, _] rfl ?_); intro a w1 bX S M hB
 refine qG [1] S ?_; intro a S
 refine nxA (qG [1, 1, 25] S ?_); intro a S
 refine qY S (y_load S (by kernel_rfl) rfl (by rw [(B.cells0 M.below).cells]; rfl)) ?_; intro a S
 refine qY S (y_makeFunc (fs := []) (cs := [.tmp 3]) S rfl rfl) ?_; intro a S
 refine qC (xs := [.tmp 8, .tmp 9]) S (qE Tryz.func310) rfl (indexFuncR_any (fi := []) (ca := [.pointer (some ⟨bX, 0, none⟩)]) (enters_of Tryz.func311 (by decide) rfl) va vc s.op (fun q => q.name.eqb nm) _ (M.argW hv) (fun q w' hb => findC_any q nm bX w' ((hb.block bX (M.blk 0 rfl).lt).trans (M.blk 0 rfl)))) ?_
 rintro _ w2 ⟨j, rfl, hK, hj⟩; refine ⟨_, rfl, ?_⟩; intro a S; replace M := M.grow hK
 obtain rfl := firstR_fd hj
 refine qG [1] S ?_; intro a S
 refine nxC (wp_ret (end_one S rfl (res_tmp rfl) ?_))
 exact ⟨rfl, M.below⟩
set_option maxHeartbeats 400000 in
theorem stamps1_any {wc w : World} {H : List Ent} {b : Nat} (dv : Value) (s : Ls) (v : Value) (r : Rc) (wv : Value) (M : Mem wc w (.blk b (lgC dv s v).toArray 206 :: H)) :
 Calls Tryz.prog 148 #[.pointer (some ⟨b, 1, none⟩), .agg (r.cells wv)] w fun e w' => e = .returned (.tuple #[]) ∧ Mem wc w' (.blk b (lgC dv (s.stamps r.n) v).toArray 206 :: H) := by
 refine calls_enter Tryz.func148 rfl 9 rfl rfl ?_; intro a S
 refine wp_seq ?_
 skip
 refine wp_region_lit (st_box S M rfl rfl rfl #[_, _, _, _, _, _, _, _, _, _, _, _] rfl ?_); intro a w1 bX S M hB
 refine nxB (qR [1, 12, 1, 1, 14] S M ?_); intro a S
 refine qS (sz := 1) (us := [_]) S M 1 ?_; intro w2 M
 refine wpList_nil (end_noneN S rfl ?_)
 exact ⟨rfl, M.drop 0⟩
set_option maxHeartbeats 1000000 in
theorem end1_any {wc w : World} {H : List Ent} {b lo hi : Nat} (dv : Value) (s : Ls) (va : Option Addr) (vc : Nat) (r : Rc) (wv : Value) (M : Mem wc w (.blk b (lgC dv s (opV va vc s.op)).toArray 206 :: opE lo hi va vc s.op :: H)) (hl : s.op.length ≤ 1000) :
 Calls Tryz.prog 147 #[.pointer (some ⟨b, 1, none⟩), .agg (r.cells wv)] w fun e w' => e = .returned (.tuple #[]) ∧ ∃ lo2 hi2 va2 vc2, Mem wc w' (.blk b (lgC dv (s.end_ r.name) (opV va2 vc2 (s.end_ r.name).op)).toArray 206 :: opE lo2 hi2 va2 vc2 (s.end_ r.name).op :: H) := by
 refine calls_enter Tryz.func147 rfl 22 rfl rfl ?_; intro a S
 refine wp_seq ?_
 skip
 refine wp_region_lit (st_box S M rfl rfl rfl #[_, _, _, _, _, _, _, _, _, _, _, _] rfl ?_); intro a w1 bX S M hB
 refine nxA (qG [1, 2] S ?_); intro a S
 refine qY S (y_loadAgg (cs := [_, _, _]) S (by kernel_rfl) rfl rfl (M.cellsAt (k := 3) 0 rfl rfl)) ?_; intro a S
 refine qQ (xs := [.tmp 5, .tmp 7]) S (qE Tryz.func224) rfl (find1_any dv s va vc r.name _ (M.blk 1 rfl) (rd_rcs M (p := 2) rfl hl)) M ?_; intro a w2 S hK M
 refine qG [1] S ?_; intro a S
 refine nxA (qG [1, 1] S ?_); intro a S
 refine nxC (st_fi (t := 10) S rfl ?_ ?_)
 ·intro h10 S
  refine st_condF S rfl (wp_skip (end_noneN S rfl ?_))
  first
   | (rw [Ls.end_no (fdI_neg (by omega))]
      exact ⟨rfl, _, _, _, _, M.drop 0⟩)
   | (rw [Ls.end_yes hk]
      exact ⟨rfl, _, _, _, _, (M.drop 1).perm (List.Perm.swap _ _ _)⟩)
 intro h10 S
 refine st_condT S rfl ?_
 obtain ⟨k, hk, hke⟩ := fdI_nn h10
 have hkl := fd_lt hk
 rw [hke] at S
 have hel : (s.op.eraseIdx k).length = s.op.length - 1 := by rw [List.length_eraseIdx, if_pos hkl]
 replace M := M.frn 2
 obtain ⟨g, cap, more, hv9, hmc, hcm, hlen, M1⟩ := M.ofRow (by omega)
 cases hv9
 have hle9 : (s.op.eraseIdx k).length ≤ vc := by omega
 clear M; have M := M1; clear M1
 refine wp_region_lit (qR [1, 1, 1, 25, 3, 1, 1] S M ?_); intro a S
 (first | refine qY S (y_addN S rfl rfl (by omega)) ?_ | refine qY S (y_int S rfl rfl rfl) ?_); intro a S
 refine qC (xs := [.tmp 15, .tmp 16, .tmp 18]) S (qE Tryz.func225) rfl (deleteR_any M (rcsC_len _) (by rw [rcsC_drop _ (by omega)]; exact allOne_rcs _) hlen hmc hcm hkl) ?_
 rintro _ w3 ⟨rfl, more2, hl2, M2⟩; refine ⟨_, rfl, ?_⟩; intro a S
 rw [rcsC_erase _ hkl, ← hel] at *
 have M := M2.toRow (sz := 12) (m := (s.op.eraseIdx k).length) (cap := vc) (xs := rcsC (s.op.eraseIdx k)) 0 rfl (rcsC_len _) hle9 hcm (by simpa using hl2) (by rw [List.toList_toArray, ← rcsC_len]; exact List.take_left)
 clear M2
 simp only [List.eraseIdx_cons_zero] at M
 refine qG [1, 25] S ?_; intro a S
 refine qS (sz := 1) (us := [_]) S M 2 ?_; intro w4 M
 replace S := S.keep [0, 1, 3, 4, 10]
 refine wpList_nil (end_noneN S rfl ?_)
 first
  | (rw [Ls.end_no (fdI_neg (by omega))]
     exact ⟨rfl, _, _, _, _, M.drop 0⟩)
  | (rw [Ls.end_yes hk]
     exact ⟨rfl, _, _, _, _, (M.drop 1).perm (List.Perm.swap _ _ _)⟩)
set_option maxHeartbeats 1000000 in
theorem commit1_any {wc w : World} {H : List Ent} {b lo hi : Nat} (dv : Value) (s : Ls) (va : Option Addr) (vc : Nat) (r : Rc) (wv : Value) (M : Mem wc w (.blk b (lgC dv s (opV va vc s.op)).toArray 206 :: opE lo hi va vc s.op :: H)) (hl : s.op.length ≤ 1000) (hc : r.cs < 8) :
 Calls Tryz.prog 146 #[.pointer (some ⟨b, 1, none⟩), .agg (r.cells wv)] w fun e w' => e = .returned (.tuple #[]) ∧ ∃ lo2 hi2 va2 vc2, Mem wc w' (.blk b (lgC dv (s.commit r) (opV va2 vc2 (s.commit r).op)).toArray 206 :: opE lo2 hi2 va2 vc2 (s.commit r).op :: H) := by
 refine calls_enter Tryz.func146 rfl 43 rfl rfl ?_; intro a S
 refine wp_seq ?_
 skip
 refine wp_region_lit (st_box S M rfl rfl rfl #[_, _, _, _, _, _, _, _, _, _, _, _] rfl ?_); intro a w1 bX S M hB
 refine nxA (qG [6] S ?_); intro a S
 refine qS (sz := 1) (us := [_]) S M 0 ?_; intro w2 M
 refine nxC (wp_seq (nxD (qG [1, 2] S ?_))); intro a S
 refine qY S (y_loadAgg (cs := [_, _, _]) S (by kernel_rfl) rfl rfl (M.cellsAt (k := 3) 0 rfl rfl)) ?_; intro a S
 refine qQ (xs := [.tmp 6, .tmp 8]) S (qE Tryz.func224) rfl (find1_any dv s va vc r.name _ (M.blk 1 rfl) (rd_rcs M (p := 2) rfl hl)) M ?_; intro a w3 S hK M
 refine qG [1] S ?_; intro a S
 refine nxA (qG [1, 1] S ?_); intro a S
 refine nxC (st_if (t := 11) S rfl ?_ ?_)
 ·intro h11 S
  refine st_condT S rfl ?_
  obtain ⟨k, hk, hke⟩ := fdI_nn h11
  have hkl := fd_lt hk
  rw [hke] at S
  refine wp_regionK [7] #[false, false, false, false, false, false, false, false] rfl M (by kernel_rfl) ?_; intro w4 M
  refine k_pure 0 S rfl (fun w => y_move S rfl) ?_; intro a S
  refine k_pure 1 S rfl (fun w => y_nilCheck S rfl) ?_; intro a S
  refine k_pure 2 S rfl (fun w => y_fieldAddr (k := 24) S (by kernel_rfl) rfl) ?_; intro a S
  refine k_read 3 S rfl (fun w hW => have M := M.grow hW; y_load S (by kernel_rfl) rfl (M.cell 1 rfl ((show _ = some (opV va vc s.op) from rfl)))) ?_; intro a S
  refine k_pure 4 S rfl (fun w => y_move S rfl) ?_; intro a S
  refine k_read 5 S rfl (fun w hW => have M := M.grow hW; y_loadAgg (cs := [_, _, _, _, _, _, _, _, _, _, _, _]) S (by kernel_rfl) rfl rfl (M.cellsAt (k := 12) 0 rfl rfl)) ?_; intro a S
  refine k_read 6 S rfl (fun w hW => have M := M.grow hW; y_indexR (e := 211) (sz := 12) S (by kernel_rfl) rfl (rd_rcs M (p := 2) rfl hl) rfl (by first | omega | (simp; done) | (simp; omega))) ?_; intro a S
  try simp only [Int.toNat_natCast, Nat.mul_one, Nat.zero_add] at S
  refine k_one 7 rfl (by kernel_rfl) ?_
  refine st_storeRow (v := opV va vc s.op) (sz := 12) (m := s.op.length) (j := k * 12) (us := r.cL) S M 2 rfl (by kernel_rfl) rfl rfl (by first | rfl | omega | (simp only [Int.toNat_natCast]; omega)) rfl rfl rfl rfl rfl (by omega) (rcsC_len _) (by rw [rcsC_len]; show k * 12 + 12 ≤ _; omega) ?_; intro wz lo9 hi9 M
  simp only [List.eraseIdx_cons_succ, List.eraseIdx_cons_zero] at M
  rw [rcsC_set _ hkl] at M
  refine nxC ⟨fun h => absurd h (by decide), ?_⟩
  refine k_end (by kernel_rfl) ?_
  refine nxE (qR [10, 1, 2, 1] S M ?_); intro a S
  replace S := S.keep [0, 1, 3, 4, 11, 32]
  refine nxC (st_fi (t := 32) S rfl ?_ ?_)
  ·intro h32 S
   refine st_condF S rfl (wp_skip (end_noneN S rfl ?_))
   first
    | (rw [Ls.commit_no (by omega), Ls.comm_yes hk]
       have M3 := (M.drop 1).perm (List.Perm.swap _ _ _)
       exact ⟨rfl, _, _, _, _, by simpa only [opE, opV, List.length_set] using M3⟩)
    | (rw [Ls.commit_no (by omega), Ls.comm_no (fdI_neg (by omega))]
       exact ⟨rfl, _, _, _, _, ((M.drop 1).drop 1).perm (List.Perm.swap _ _ _)⟩)
    | (rw [Ls.commit_yes (by omega), Ls.comm_yes hk]
       have M3 := (M.drop 1).perm (List.Perm.swap _ _ _)
       rw [lgC_map _ _ _ (by omega)] at M3
       exact ⟨rfl, _, _, _, _, by simpa only [opE, opV, List.length_set] using M3⟩)
    | (rw [Ls.commit_yes (by omega), Ls.comm_no (fdI_neg (by omega))]
       have M3 := ((M.drop 1).drop 1).perm (List.Perm.swap _ _ _)
       rw [lgC_map _ _ _ (by omega)] at M3
       exact ⟨rfl, _, _, _, _, M3⟩)
  intro h32 S
  refine st_condT S rfl (wp_regionK [10] #[false, false, false, false, false, false, false, false, false, false, false] rfl M (by kernel_rfl) ?_); intro w5 M
  refine k_pure 0 S rfl (fun w => y_move S rfl) ?_; intro a S
  refine k_pure 1 S rfl (fun w => y_fieldAddr (k := 9) S (by kernel_rfl) rfl) ?_; intro a S
  refine k_pure 2 S rfl (fun w => y_fieldAddr (k := 0) S (by kernel_rfl) rfl) ?_; intro a S
  refine k_read 3 S rfl (fun w hW => have M := M.grow hW; y_load S (by kernel_rfl) rfl (M.cell 1 rfl rfl)) ?_; intro a S
  refine k_pure 4 S rfl (fun w => y_fieldAddr (k := 9) S (by kernel_rfl) rfl) ?_; intro a S
  refine k_pure 5 S rfl (fun w => y_fieldAddr (k := 1) S (by kernel_rfl) rfl) ?_; intro a S
  refine k_read 6 S rfl (fun w hW => have M := M.grow hW; y_load S (by kernel_rfl) rfl (M.cell 1 rfl ((show _ = some (Value.int .i64 r.ct) from rfl)))) ?_; intro a S
  refine k_pure 7 S rfl (fun w => y_nilCheck S rfl) ?_; intro a S
  refine k_pure 8 S rfl (fun w => y_fieldAddr (k := 14) S (by kernel_rfl) rfl) ?_; intro a S
  refine k_pure 9 S rfl (fun w => y_indexA (m := 8) (sz := 1) S (by kernel_rfl) rfl rfl (by first | omega | (simp; done) | (simp; omega))) ?_; intro a S
  try simp only [Int.toNat_natCast, Nat.mul_one, Nat.zero_add] at S
  refine k_one 10 rfl (by kernel_rfl) ?_
  refine st_store (sz := 1) (us := [_]) S M 2 rfl (by kernel_rfl) rfl rfl rfl rfl rfl rfl (by first | (show 14 + r.cs.toNat + 1 ≤ 25; omega) | (show 15 + r.cs.toNat + 1 ≤ 26; omega)) ?_; intro w6 M
  simp only [List.set_cons_zero, List.set_cons_succ] at M
  refine nxC ⟨fun h => absurd h (by decide), ?_⟩
  refine k_end (by kernel_rfl) ?_
  refine end_noneN S rfl ?_
  first
   | (rw [Ls.commit_no (by omega), Ls.comm_yes hk]
      have M3 := (M.drop 1).perm (List.Perm.swap _ _ _)
      exact ⟨rfl, _, _, _, _, by simpa only [opE, opV, List.length_set] using M3⟩)
   | (rw [Ls.commit_no (by omega), Ls.comm_no (fdI_neg (by omega))]
      exact ⟨rfl, _, _, _, _, ((M.drop 1).drop 1).perm (List.Perm.swap _ _ _)⟩)
   | (rw [Ls.commit_yes (by omega), Ls.comm_yes hk]
      have M3 := (M.drop 1).perm (List.Perm.swap _ _ _)
      rw [lgC_map _ _ _ (by omega)] at M3
      exact ⟨rfl, _, _, _, _, by simpa only [opE, opV, List.length_set] using M3⟩)
   | (rw [Ls.commit_yes (by omega), Ls.comm_no (fdI_neg (by omega))]
      have M3 := ((M.drop 1).drop 1).perm (List.Perm.swap _ _ _)
      rw [lgC_map _ _ _ (by omega)] at M3
      exact ⟨rfl, _, _, _, _, M3⟩)
 intro h11 S
 refine st_condF S rfl (wp_regionK [7, 10] #[false, false, false, false, false, false, false, false, false, false, false] rfl M (by kernel_rfl) ?_); intro w7 M
 refine k_pure 0 S rfl (fun w => y_move S rfl) ?_; intro a S
 refine k_pure 1 S rfl (fun w => y_move S rfl) ?_; intro a S
 refine k_pure 2 S rfl (fun w => y_nilCheck S rfl) ?_; intro a S
 refine k_pure 3 S rfl (fun w => y_fieldAddr (k := 24) S (by kernel_rfl) rfl) ?_; intro a S
 refine k_read 4 S rfl (fun w hW => have M := M.grow hW; y_load S (by kernel_rfl) rfl (M.cell 1 rfl ((show _ = some (opV va vc s.op) from rfl)))) ?_; intro a S
 refine k_read 5 S rfl (fun w hW => have M := M.grow hW; y_loadAgg (cs := [_, _, _, _, _, _, _, _, _, _, _, _]) S (by kernel_rfl) rfl rfl (M.cellsAt (k := 12) 0 rfl rfl)) ?_; intro a S
 refine k_one 6 rfl (by kernel_rfl) ?_
 refine st_lit (ps := [(0, .tmp 24)]) (e := 211) (sz := 12) (zl := [.int .i8 0, .int .i64 0, .int .i64 0, .int .i64 0, .bool false, .slice none 0 0, .int .i64 0, .int .i64 0, .int .i64 0, .int .i64 0, .int .i64 0, .int .i64 0]) (cs := [_, _, _, _, _, _, _, _, _, _, _, _]) S M rfl rfl (by kernel_rfl) rfl (rfl) ?_; intro a w8 bN S M hB
 refine nxC ⟨fun _ => hB, ?_⟩
 refine k_one 7 rfl (by kernel_rfl) ?_
 refine st_append (e := 211) (sz := 12) (by_ := 112) (zc := [.int .i8 0, .int .i64 0, .int .i64 0, .int .i64 0, .bool false, .slice none 0 0, .int .i64 0, .int .i64 0, .int .i64 0, .int .i64 0, .int .i64 0, .int .i64 0]) S M 3 rfl rfl (by kernel_rfl) rfl (by decide) rfl rfl rfl (show Rd _ _ _ 12 _ 1 r.cL from M.sliceAt 0 rfl (M.cellsAt (k := 12) 0 rfl rfl) rfl (Nat.le_refl _) (by unfold maxLen; omega)) (rfl) (by omega) (by unfold maxLen; omega) ?_; intro a w9 vA loA hiA S M
 refine nxC ⟨fun h => absurd h (by decide), ?_⟩
 refine k_pure 8 S rfl (fun w => y_nilCheck S rfl) ?_; intro a S
 refine k_pure 9 S rfl (fun w => y_fieldAddr (k := 24) S (by kernel_rfl) rfl) ?_; intro a S
 refine k_one 10 rfl (by kernel_rfl) ?_
 obtain ⟨aA, cA, rfl, -, -⟩ := (M.readAll 0 rfl (by unfold maxLen; omega)).form
 rw [← rcsC_snoc] at M
 have hsn : s.op.length + 1 = (s.op ++ [r]).length := by rw [List.length_append]; rfl
 rw [hsn] at S M
 refine qS (sz := 1) (us := [_]) S M 3 ?_; intro w10 M
 refine nxC ⟨fun h => absurd h (by decide), ?_⟩
 refine k_end (by kernel_rfl) ?_
 replace S := S.keep [0, 1, 3, 4, 11]
 refine nxE (qR [10, 1, 3, 1] S M ?_); intro a S
 refine nxC (st_fi (t := 32) S rfl ?_ ?_)
 ·intro h32 S
  refine st_condF S rfl (wp_skip (end_noneN S rfl ?_))
  first
   | (rw [Ls.commit_no (by omega), Ls.comm_yes hk]
      have M3 := (M.drop 1).perm (List.Perm.swap _ _ _)
      exact ⟨rfl, _, _, _, _, by simpa only [opE, opV, List.length_set] using M3⟩)
   | (rw [Ls.commit_no (by omega), Ls.comm_no (fdI_neg (by omega))]
      exact ⟨rfl, _, _, _, _, ((M.drop 1).drop 1).perm (List.Perm.swap _ _ _)⟩)
   | (rw [Ls.commit_yes (by omega), Ls.comm_yes hk]
      have M3 := (M.drop 1).perm (List.Perm.swap _ _ _)
      rw [lgC_map _ _ _ (by omega)] at M3
      exact ⟨rfl, _, _, _, _, by simpa only [opE, opV, List.length_set] using M3⟩)
   | (rw [Ls.commit_yes (by omega), Ls.comm_no (fdI_neg (by omega))]
      have M3 := ((M.drop 1).drop 1).perm (List.Perm.swap _ _ _)
      rw [lgC_map _ _ _ (by omega)] at M3
      exact ⟨rfl, _, _, _, _, M3⟩)
 intro h32 S
 refine st_condT S rfl (wp_regionK [10] #[false, false, false, false, false, false, false, false, false, false, false] rfl M (by kernel_rfl) ?_); intro w11 M
 refine k_pure 0 S rfl (fun w => y_move S rfl) ?_; intro a S
 refine k_pure 1 S rfl (fun w => y_fieldAddr (k := 9) S (by kernel_rfl) rfl) ?_; intro a S
 refine k_pure 2 S rfl (fun w => y_fieldAddr (k := 0) S (by kernel_rfl) rfl) ?_; intro a S
 refine k_read 3 S rfl (fun w hW => have M := M.grow hW; y_load S (by kernel_rfl) rfl (M.cell 2 rfl rfl)) ?_; intro a S
 refine k_pure 4 S rfl (fun w => y_fieldAddr (k := 9) S (by kernel_rfl) rfl) ?_; intro a S
 refine k_pure 5 S rfl (fun w => y_fieldAddr (k := 1) S (by kernel_rfl) rfl) ?_; intro a S
 refine k_read 6 S rfl (fun w hW => have M := M.grow hW; y_load S (by kernel_rfl) rfl (M.cell 2 rfl ((show _ = some (Value.int .i64 r.ct) from rfl)))) ?_; intro a S
 refine k_pure 7 S rfl (fun w => y_nilCheck S rfl) ?_; intro a S
 refine k_pure 8 S rfl (fun w => y_fieldAddr (k := 14) S (by kernel_rfl) rfl) ?_; intro a S
 refine k_pure 9 S rfl (fun w => y_indexA (m := 8) (sz := 1) S (by kernel_rfl) rfl rfl (by first | omega | (simp; done) | (simp; omega))) ?_; intro a S
 try simp only [Int.toNat_natCast, Nat.mul_one, Nat.zero_add] at S
 refine k_one 10 rfl (by kernel_rfl) ?_
 refine st_store (sz := 1) (us := [_]) S M 3 rfl (by kernel_rfl) rfl rfl rfl rfl rfl rfl (by first | (show 14 + r.cs.toNat + 1 ≤ 25; omega) | (show 15 + r.cs.toNat + 1 ≤ 26; omega)) ?_; intro w12 M
 simp only [List.set_cons_zero, List.set_cons_succ] at M
 refine nxC ⟨fun h => absurd h (by decide), ?_⟩
 refine k_end (by kernel_rfl) ?_
 refine end_noneN S rfl ?_
 first
  | (rw [Ls.commit_no (by omega), Ls.comm_yes hk]
     have M3 := (M.drop 1).perm (List.Perm.swap _ _ _)
     exact ⟨rfl, _, _, _, _, by simpa only [opE, opV, List.length_set] using M3⟩)
  | (rw [Ls.commit_no (by omega), Ls.comm_no (fdI_neg (by omega))]
     exact ⟨rfl, _, _, _, _, ((M.drop 1).drop 1).perm (List.Perm.swap _ _ _)⟩)
  | (rw [Ls.commit_yes (by omega), Ls.comm_yes hk]
     have M3 := (M.drop 1).perm (List.Perm.swap _ _ _)
     rw [lgC_map _ _ _ (by omega)] at M3
     exact ⟨rfl, _, _, _, _, by simpa only [opE, opV, List.length_set] using M3⟩)
  | (rw [Ls.commit_yes (by omega), Ls.comm_no (fdI_neg (by omega))]
     have M3 := ((M.drop 1).drop 1).perm (List.Perm.swap _ _ _)
     rw [lgC_map _ _ _ (by omega)] at M3
     exact ⟨rfl, _, _, _, _, M3⟩)
end Go.Proofs.YtkkcehcpffamkaaGreat

namespace Go.Proofs.YtkkcehcpffamkaaGreat
open Go.RowKit Go.Sort
set_option maxHeartbeats 400000 in
theorem copied_any {b : Nat} (dv : Value) (s : Ls) (va : Option Addr) (vc : Nat) (w : World) (B : Blk w b (lgC dv s (opV va vc s.op)).toArray 206) (hv : Rd 0 w.heap.size w 12 (opV va vc s.op) s.op.length (rcsC s.op)) (hl : s.op.length ≤ 1000) :
 Calls Tryz.prog 267 #[.pointer (some ⟨b, 1, none⟩)] w fun e w' => ∃ va2 vc2, e = .returned (.agg (stC s (opV va2 vc2 s.op)).toArray) ∧ Fresh w w' 211 12 (opV va2 vc2 s.op) s.op.length (rcsC s.op) := by
 have M := Mem.start w
 refine calls_enter Tryz.func267 rfl 14 rfl rfl ?_; intro a S
 refine nxD (st_alloc S M rfl rfl #[.int .i64 0, .int .i64 0, .int .i64 0, .int .i64 0, .int .i64 0, .int .i64 0, .int .i64 0, .int .i64 0, .int .i64 0, .int .i64 0, .int .i64 0, .int .i64 0, .int .i64 0, .int .i64 0, .int .i64 0, .int .i64 0, .int .i64 0, .int .i64 0, .int .i64 0, .int .i64 0, .int .i64 0, .int .i64 0, .int .i64 0, .int .i64 0, .slice none 0 0] (by kernel_rfl) ?_); intro a w1 bZ S M hB
 refine nxA (qG [1, 1] S ?_); intro a S
 refine qY S (y_loadAgg S (by kernel_rfl) rfl rfl (show CellsAt _ b 1 (stC s (opV va vc s.op)) from Blk.cellsAt (o := 1) (k := 25) (B.cells0 M.below) rfl)) ?_; intro a S
 refine st_alloc S M rfl rfl #[.int .i64 0, .int .i64 0, .int .i64 0, .int .i64 0, .int .i64 0, .int .i64 0, .int .i64 0, .int .i64 0, .int .i64 0, .int .i64 0, .int .i64 0, .int .i64 0, .int .i64 0, .int .i64 0, .int .i64 0, .int .i64 0, .int .i64 0, .int .i64 0, .int .i64 0, .int .i64 0, .int .i64 0, .int .i64 0, .int .i64 0, .int .i64 0, .slice none 0 0] (by kernel_rfl) ?_; intro a w2 bY S M hB
 refine qS (sz := 25) (us := [_, _, _, _, _, _, _, _, _, _, _, _, _, _, _, _, _, _, _, _, _, _, _, _, _]) S M 0 ?_; intro w3 M
 refine nxA (qG [1, 1, 25] S ?_); intro a S
 refine qY S (y_load S (by kernel_rfl) rfl (by rw [(B.cells0 M.below).cells]; rfl)) ?_; intro a S
 refine qC (xs := [.tmp 10]) S (qE Tryz.func101) rfl (cloneR_any _ s.op _ (M.argW hv) (by omega)) ?_
 rintro _ w4 ⟨v2, rfl, hF⟩; refine ⟨_, rfl, ?_⟩; intro a S
 obtain ⟨lo, hi, -, M1⟩ := M.pushFresh hF; clear M; have M := M1; clear M1
 obtain ⟨va2, vc2, rfl, -, -⟩ := (M.readAll 0 rfl (by unfold maxLen; omega)).form
 refine qG [25] S ?_; intro a S
 refine qS (sz := 1) (us := [_]) S M 1 ?_; intro w5 M
 refine nxA (qY S (y_loadAgg (cs := [_, _, _, _, _, _, _, _, _, _, _, _, _, _, _, _, _, _, _, _, _, _, _, _, _]) S (by kernel_rfl) rfl rfl (M.cellsAt (k := 25) 1 rfl rfl)) ?_); intro a S
 refine qS (sz := 25) (us := [_, _, _, _, _, _, _, _, _, _, _, _, _, _, _, _, _, _, _, _, _, _, _, _, _]) S M 2 ?_; intro w6 M
 refine nxC (wp_ret (end_one S rfl (res_agg (cs := [_, _, _, _, _, _, _, _, _, _, _, _, _, _, _, _, _, _, _, _, _, _, _, _, _]) (by kernel_rfl) rfl rfl (M.cellsAt (k := 25) 2 rfl rfl)) ?_))
 exact ⟨va2, vc2, rfl, M.fresh 0 rfl⟩
abbrev e8 : Int → Value := fun z => .int .i8 z
theorem key8 : KeyT Tryz.prog 29 e8 := key_i8 Tryz.underlying29
set_option maxRecDepth 100000 in
theorem zero_fn (w : World) : (zeroValue 293).run Tryz.prog w = .ok .nilFunc w := by
 obtain ⟨i, hi, hz⟩ : ∃ i, Tryz.prog.info? 293 = some i ∧ i.zero = some .nilFunc := by
  refine ⟨_, rfl, ?_⟩
  kernel_rfl
 simp [zeroValue, typeInfo, hi, hz, go_sem]
def methK (k : Int) : Nat := if k = 4 then 146 else if k = 5 then 147 else 148
theorem methK_enters {k : Int} (h : k = 4 ∨ k = 5 ∨ k = 6) : Enters Tryz.prog (methK k) := by
 rcases h with rfl | rfl | rfl
 ·exact enters_of Tryz.func146 (by decide) rfl
 ·exact enters_of Tryz.func147 (by decide) rfl
 ·exact enters_of Tryz.func148 (by decide) rfl
def tabM (p : Value) : Mes Int × Nat := let a := putM e8 [] 0 4 (.func (.func 146) #[p] #[]); let c := putM e8 a.1 a.2 5 (.func (.func 147) #[p] #[]); putM e8 c.1 c.2 6 (.func (.func 148) #[p] #[])
theorem tabM_get (p : Value) {k : Int} (h : k = 4 ∨ k = 5 ∨ k = 6) : (getM (tabM p).1 k).getD .nilFunc = .func (.func (methK k)) #[p] #[] ∧ decide (k ∈ (tabM p).1.map (·.1)) = true := by
 rcases h with rfl | rfl | rfl <;> exact ⟨rfl, rfl⟩
theorem tabM_good (p : Value) : Good e8 (tabM p).1 (tabM p).2 := ((((good_nil 0).put 4 _).put 5 _).put 6 _)
theorem meth0_any {wc w : World} {H : List Ent} {b lo hi : Nat} (s : Ls) (va : Option Addr) (vc : Nat) (r : Rc) (wv : Value) (M : Mem wc w (.blk b (stC s (opV va vc s.op)).toArray 204 :: opE lo hi va vc s.op :: H)) (hl : s.op.length ≤ 1000) (hc : r.cs < 8) (hk : r.kind = 4 ∨ r.kind = 5 ∨ r.kind = 6) :
 Calls Tryz.prog (methK r.kind) #[.pointer (some ⟨b, 0, none⟩), .agg (r.cells wv)] w fun e w' => e = .returned (.tuple #[]) ∧ ∃ lo2 hi2 va2 vc2, Mem wc w' (.blk b (stC (s.take r) (opV va2 vc2 (s.take r).op)).toArray 204 :: opE lo2 hi2 va2 vc2 (s.take r).op :: H) := by
 unfold Ls.take
 rcases hk with h | h | h
 ·rw [show methK r.kind = 146 by rw [h]; rfl, if_pos h]; exact commit0_any s va vc r wv M hl hc
 ·rw [show methK r.kind = 147 by rw [h]; rfl, if_neg (by omega), if_pos h]; exact end0_any s va vc r wv M hl
 ·rw [show methK r.kind = 148 by rw [h]; rfl, if_neg (by omega), if_neg (by omega)]
  refine (stamps0_any s _ r wv M).mono ?_
  rintro e w' ⟨rfl, M2⟩
  exact ⟨rfl, lo, hi, va, vc, M2⟩
set_option maxHeartbeats 1000000 in
theorem take0_any {wc w : World} {H : List Ent} {b lo hi : Nat} (s : Ls) (va : Option Addr) (vc : Nat) (r : Rc) (wv : Value) (M : Mem wc w (.blk b (stC s (opV va vc s.op)).toArray 204 :: opE lo hi va vc s.op :: H)) (hl : s.op.length ≤ 1000) (hc : r.cs < 8) (hk : r.kind = 4 ∨ r.kind = 5 ∨ r.kind = 6) :
 Calls Tryz.prog 94 #[.pointer (some ⟨b, 0, none⟩), .agg (r.cells wv)] w fun e w' => e = .returned (.bool true) ∧ ∃ lo2 hi2 va2 vc2, Mem wc w' (.blk b (stC (s.take r) (opV va2 vc2 (s.take r).op)).toArray 204 :: opE lo2 hi2 va2 vc2 (s.take r).op :: H) := by
 refine calls_enter Tryz.func94 rfl 28 rfl rfl ?_; intro a S
 refine wp_seq ?_
 skip
 refine wp_region_lit (st_box S M rfl rfl rfl #[_, _, _, _, _, _, _, _, _, _, _, _] rfl ?_); intro a w1 bX S M hB
 refine qG [1] S ?_; intro a S
 refine nxA (st_makeMap (κ := Int) S M rfl rfl ?_); intro a w2 bMP S M hB
 refine qG [1] S ?_; intro a S
 refine qY S (y_makeFunc (fs := [.tmp 9]) (cs := []) S rfl rfl) ?_; intro a S
 refine st_insertM (pos := 0) S M (key8) (good_nil _) Tryz.underlying294 rfl rfl rfl rfl rfl ?_; intro w3 M
 simp only [List.set_cons_zero, List.set_cons_succ] at M
 refine qG [1] S ?_; intro a S
 refine qY S (y_makeFunc (fs := [.tmp 11]) (cs := []) S rfl rfl) ?_; intro a S
 refine st_insertM (pos := 0) S M (key8) ((good_nil _).put 4 _) Tryz.underlying294 rfl rfl rfl rfl rfl ?_; intro w4 M
 simp only [List.set_cons_zero, List.set_cons_succ] at M
 refine qG [1] S ?_; intro a S
 refine qY S (y_makeFunc (fs := [.tmp 13]) (cs := []) S rfl rfl) ?_; intro a S
 refine st_insertM (pos := 0) S M (key8) (((good_nil _).put 4 _).put 5 _) Tryz.underlying294 rfl rfl rfl rfl rfl ?_; intro w5 M
 simp only [List.set_cons_zero, List.set_cons_succ] at M
 refine qG [1, 1] S ?_; intro a S
 refine nxC (wp_seq ?_)
 obtain ⟨tm, htm⟩ : ∃ tm, tabM (.pointer (some ⟨b, 0, none⟩)) = tm := ⟨_, rfl⟩
 have hg := tabM_get (.pointer (some ⟨b, 0, none⟩)) hk
 have hG := tabM_good (.pointer (some ⟨b, 0, none⟩))
 replace M : Mem wc w5 (mapX bMP (tabM (.pointer (some ⟨b, 0, none⟩))).1 (tabM (.pointer (some ⟨b, 0, none⟩))).2 :: .blk bX (r.cells wv) 211 :: .blk b (stC s (opV va vc s.op)).toArray 204 :: opE lo hi va vc s.op :: H) := M
 rw [htm] at hg hG M
 refine wp_region_lit (qR [1, 1, 2] S M ?_); intro a S
 refine qY S (y_lookupM (pos := 0) S M (key8) (hG) Tryz.underlying294 (zero_fn) rfl rfl rfl) ?_; intro a S
 simp only [hg.1, hg.2, if_true] at S
 refine qY S (y_move S rfl) ?_; intro a S
 refine qG [1, 1, 1, 1] S ?_; intro a S
 replace S := S.keep [0, 1, 3, 4, 5, 6, 7]
 refine nxC (wp_seq (nxD (qG [1] S ?_))); intro a S
 refine nxC (st_fi (t := 23) S rfl ?_ ?_)
 ·intro h23 S
  first | cases h23 | (simp at h23)
 intro h23 S
 refine st_condT S rfl ?_
 skip
 replace M := M.ord [3, 3] (by simp only [ordO, oG, oS, oE, oZ, oB] <;> rfl)
 refine wp_region_lit (qG [1] S ?_); intro a S
 refine qY S (y_loadAgg (cs := [_, _, _, _, _, _, _, _, _, _, _, _]) S (by kernel_rfl) rfl rfl (M.cellsAt (k := 12) 3 rfl rfl)) ?_; intro a S
 refine st_callB (xs := [.tmp 25]) (fi := [_]) (ca := []) S (methK_enters hk) rfl rfl (rfl) rfl (meth0_any s va vc r wv M hl hc hk) ?_
 rintro _ w6 ⟨rfl, lo2, hi2, va2, vc2, M2⟩; refine ⟨_, rfl, ?_⟩; intro a S; have M := M2; clear M2
 refine nxA (qG [1, 1] S ?_); intro a S
 refine nxC (wp_ret (end_one S rfl (res_tmp rfl) ?_))
 exact ⟨rfl, lo2, hi2, va2, vc2, (M.drop 2).drop 2⟩
theorem meth1_any {wc w : World} {H : List Ent} {b lo hi : Nat} (dv : Value) (s : Ls) (va : Option Addr) (vc : Nat) (r : Rc) (wv : Value) (M : Mem wc w (.blk b (lgC dv s (opV va vc s.op)).toArray 206 :: opE lo hi va vc s.op :: H)) (hl : s.op.length ≤ 1000) (hc : r.cs < 8) (hk : r.kind = 4 ∨ r.kind = 5 ∨ r.kind = 6) :
 Calls Tryz.prog (methK r.kind) #[.pointer (some ⟨b, 1, none⟩), .agg (r.cells wv)] w fun e w' => e = .returned (.tuple #[]) ∧ ∃ lo2 hi2 va2 vc2, Mem wc w' (.blk b (lgC dv (s.take r) (opV va2 vc2 (s.take r).op)).toArray 206 :: opE lo2 hi2 va2 vc2 (s.take r).op :: H) := by
 unfold Ls.take
 rcases hk with h | h | h
 ·rw [show methK r.kind = 146 by rw [h]; rfl, if_pos h]; exact commit1_any dv s va vc r wv M hl hc
 ·rw [show methK r.kind = 147 by rw [h]; rfl, if_neg (by omega), if_pos h]; exact end1_any dv s va vc r wv M hl
 ·rw [show methK r.kind = 148 by rw [h]; rfl, if_neg (by omega), if_neg (by omega)]
  refine (stamps1_any dv s _ r wv M).mono ?_
  rintro e w' ⟨rfl, M2⟩
  exact ⟨rfl, lo, hi, va, vc, M2⟩
set_option maxHeartbeats 1000000 in
theorem take1_any {wc w : World} {H : List Ent} {b lo hi : Nat} (dv : Value) (s : Ls) (va : Option Addr) (vc : Nat) (r : Rc) (wv : Value) (M : Mem wc w (.blk b (lgC dv s (opV va vc s.op)).toArray 206 :: opE lo hi va vc s.op :: H)) (hl : s.op.length ≤ 1000) (hc : r.cs < 8) (hk : r.kind = 4 ∨ r.kind = 5 ∨ r.kind = 6) :
 Calls Tryz.prog 94 #[.pointer (some ⟨b, 1, none⟩), .agg (r.cells wv)] w fun e w' => e = .returned (.bool true) ∧ ∃ lo2 hi2 va2 vc2, Mem wc w' (.blk b (lgC dv (s.take r) (opV va2 vc2 (s.take r).op)).toArray 206 :: opE lo2 hi2 va2 vc2 (s.take r).op :: H) := by
 refine calls_enter Tryz.func94 rfl 28 rfl rfl ?_; intro a S
 refine wp_seq ?_
 skip
 refine wp_region_lit (st_box S M rfl rfl rfl #[_, _, _, _, _, _, _, _, _, _, _, _] rfl ?_); intro a w1 bX S M hB
 refine qG [1] S ?_; intro a S
 refine nxA (st_makeMap (κ := Int) S M rfl rfl ?_); intro a w2 bMP S M hB
 refine qG [1] S ?_; intro a S
 refine qY S (y_makeFunc (fs := [.tmp 9]) (cs := []) S rfl rfl) ?_; intro a S
 refine st_insertM (pos := 0) S M (key8) (good_nil _) Tryz.underlying294 rfl rfl rfl rfl rfl ?_; intro w3 M
 simp only [List.set_cons_zero, List.set_cons_succ] at M
 refine qG [1] S ?_; intro a S
 refine qY S (y_makeFunc (fs := [.tmp 11]) (cs := []) S rfl rfl) ?_; intro a S
 refine st_insertM (pos := 0) S M (key8) ((good_nil _).put 4 _) Tryz.underlying294 rfl rfl rfl rfl rfl ?_; intro w4 M
 simp only [List.set_cons_zero, List.set_cons_succ] at M
 refine qG [1] S ?_; intro a S
 refine qY S (y_makeFunc (fs := [.tmp 13]) (cs := []) S rfl rfl) ?_; intro a S
 refine st_insertM (pos := 0) S M (key8) (((good_nil _).put 4 _).put 5 _) Tryz.underlying294 rfl rfl rfl rfl rfl ?_; intro w5 M
 simp only [List.set_cons_zero, List.set_cons_succ] at M
 refine qG [1, 1] S ?_; intro a S
 refine nxC (wp_seq ?_)
 obtain ⟨tm, htm⟩ : ∃ tm, tabM (.pointer (some ⟨b, 1, none⟩)) = tm := ⟨_, rfl⟩
 have hg := tabM_get (.pointer (some ⟨b, 1, none⟩)) hk
 have hG := tabM_good (.pointer (some ⟨b, 1, none⟩))
 replace M : Mem wc w5 (mapX bMP (tabM (.pointer (some ⟨b, 1, none⟩))).1 (tabM (.pointer (some ⟨b, 1, none⟩))).2 :: .blk bX (r.cells wv) 211 :: .blk b (lgC dv s (opV va vc s.op)).toArray 206 :: opE lo hi va vc s.op :: H) := M
 rw [htm] at hg hG M
 refine wp_region_lit (qR [1, 1, 2] S M ?_); intro a S
 refine qY S (y_lookupM (pos := 0) S M (key8) (hG) Tryz.underlying294 (zero_fn) rfl rfl rfl) ?_; intro a S
 simp only [hg.1, hg.2, if_true] at S
 refine qY S (y_move S rfl) ?_; intro a S
 refine qG [1, 1, 1, 1] S ?_; intro a S
 replace S := S.keep [0, 1, 3, 4, 5, 6, 7]
 refine nxC (wp_seq (nxD (qG [1] S ?_))); intro a S
 refine nxC (st_fi (t := 23) S rfl ?_ ?_)
 ·intro h23 S
  first | cases h23 | (simp at h23)
 intro h23 S
 refine st_condT S rfl ?_
 skip
 replace M := M.ord [3, 3] (by simp only [ordO, oG, oS, oE, oZ, oB] <;> rfl)
 refine wp_region_lit (qG [1] S ?_); intro a S
 refine qY S (y_loadAgg (cs := [_, _, _, _, _, _, _, _, _, _, _, _]) S (by kernel_rfl) rfl rfl (M.cellsAt (k := 12) 3 rfl rfl)) ?_; intro a S
 refine st_callB (xs := [.tmp 25]) (fi := [_]) (ca := []) S (methK_enters hk) rfl rfl (rfl) rfl (meth1_any dv s va vc r wv M hl hc hk) ?_
 rintro _ w6 ⟨rfl, lo2, hi2, va2, vc2, M2⟩; refine ⟨_, rfl, ?_⟩; intro a S; have M := M2; clear M2
 refine nxA (qG [1, 1] S ?_); intro a S
 refine nxC (wp_ret (end_one S rfl (res_tmp rfl) ?_))
 exact ⟨rfl, lo2, hi2, va2, vc2, (M.drop 2).drop 2⟩
end Go.Proofs.YtkkcehcpffamkaaGreat

namespace Go.Proofs.YtkkcehcpffamkaaGreat
open Go.RowKit Go.Sort
theorem write_le {S0 : DS} (hw : ∀ k, (S0.cache k).length ≤ 1000) (k : Int) (bs : List UInt8) (j : Int) : ((S0.write k bs).cache j).length ≤ 1000000 := by have := write_cache_le (k := k) (bs := bs) hw j; omega
theorem super_any {wc w : World} {A E : List Ent} {b : Nat} {S0 : DS} (s : Su) (hE : DkE b S0 E) (M : Mem wc w (A ++ E)) (hup : S0.down = false) (hm : s.may) (hw : ∀ k, (S0.cache k).length ≤ 1000) :
 Calls Tryz.prog 59 #[.pointer (some ⟨b, 0, none⟩), .agg s.cellsL.toArray] w fun e w' => e = .returned (.int .i64 0) ∧ ∃ E', DkE b (S0.write (s.gen % 2) (supS s)).flush E' ∧ Mem wc w' (A ++ E') := by
 refine calls_enter Tryz.func59 rfl 14 rfl rfl ?_; intro a S
 refine nxD (st_box S M rfl rfl rfl #[_, _, _, _, _, _, _, _, _, _, _, _, _] rfl ?_); intro a w1 bB S M hB
 refine qG [1] S ?_; intro a S
 refine nxC (wp_seq (nxD (qG [1] S ?_))); intro a S
 refine qY S (y_loadAgg (cs := [_, _, _, _, _, _, _, _, _, _, _, _, _]) S (by kernel_rfl) rfl rfl (M.cellsAt (k := 13) 0 rfl rfl)) ?_; intro a S
 refine qC (xs := [.tmp 6, .tmp 7]) S (qE Tryz.func90) rfl (putSuper_any (A := _ :: A) s hE M hup hm (fun k => by have := hw k; omega)) ?_
 rintro _ w2 ⟨rfl, E1, hE1, M1⟩; refine ⟨_, rfl, ?_⟩; intro a S; have M := M1; clear M1
 simp only [List.cons_append] at M
 refine qG [1] S ?_; intro a S
 refine nxA (qG [1, 1] S ?_); intro a S
 refine nxC (st_if (t := 10) S rfl ?_ ?_)
 ·intro h10 S
  exact absurd rfl h10
 intro h10 S
 refine st_condF S rfl (wp_skip (nxE (qG [1] S ?_))); intro a S
 refine qC (xs := [.tmp 12]) S (qE Tryz.func91) rfl (flush_any (A := _ :: A) hE1 M hup (write_le hw _ _)) ?_
 rintro _ w3 ⟨rfl, E2, hE2, M1⟩; refine ⟨_, rfl, ?_⟩; intro a S; have M := M1; clear M1
 simp only [List.cons_append] at M
 refine qG [1] S ?_; intro a S
 refine nxC (wp_ret (end_one S rfl (res_tmp rfl) ?_))
 exact ⟨rfl, E2, hE2, M.drop 0⟩
theorem down_any {wc w : World} {A E : List Ent} {b : Nat} {S0 : DS} (hE : DkE b S0 E) (M : Mem wc w (A ++ E)) :
 Calls Tryz.prog 322 #[.pointer (some ⟨b, 0, none⟩)] w fun e w' => e = .returned (.bool S0.down) ∧ Mem wc w' (A ++ E) := by
 obtain ⟨D, rfl, O, rfl, rfl⟩ := hE
 replace M := M.perm List.perm_append_comm
 obtain ⟨dn, hd⟩ : ∃ dn, D.down = dn := ⟨_, rfl⟩
 show Calls Tryz.prog 322 _ w fun e w' => e = .returned (.bool D.down) ∧ _
 rw [hd]
 replace M : Mem wc w (.blk D.b (dcells D.dur D.m D.down).toArray 157 :: mapX D.m D.ml D.cl :: (secsE D.secs ++ A)) := M
 refine calls_enter Tryz.func322 rfl 11 rfl rfl ?_; intro a S
 refine wp_seq ?_
 skip
 refine wp_region_lit (qG [1] S ?_); intro a S
 refine nxA (qG [1] S ?_); intro a S
 refine qY S (y_eqlPS (by kernel_rfl) S rfl) ?_; intro a S
 refine qG [1, 1, 1, 2178] S ?_; intro a S
 refine qY S (y_load S (by kernel_rfl) rfl (M.cell 0 rfl ((dcells_down O.dur _ _).trans (by rw [hd])))) ?_; intro a S
 refine qG [1, 1] S ?_; intro a S
 refine nxC (wp_ret (end_one S rfl (res_tmp rfl) ?_))
 exact ⟨rfl, Mem.perm (H := Dk.ents D ++ A) M List.perm_append_comm⟩
set_option maxHeartbeats 1000000 in
theorem begin_any {wc w : World} {A E : List Ent} {b bd : Nat} {S0 : DS} (s : Ls) (v : Value) (hE : DkE bd S0 E) (M : Mem wc w (.blk b (lgC (.pointer (some ⟨bd, 0, none⟩)) s v).toArray 206 :: (A ++ E))) (hup : S0.down = false) (hm : (begunSu s.su).may) (hw : ∀ k, (S0.cache k).length ≤ 1000) :
 Calls Tryz.prog 63 #[.pointer (some ⟨b, 0, none⟩)] w fun e w' => e = .returned (.tuple #[.int .i64 (s.su.inc + 1), .int .i64 0]) ∧ ∃ E', DkE bd (S0.write ((begunSu s.su).gen % 2) (supS (begunSu s.su))).flush E' ∧ Mem wc w' (.blk b (lgC (.pointer (some ⟨bd, 0, none⟩)) { s with su := begunSu s.su } v).toArray 206 :: (A ++ E')) := by
 have hb : s.su.inc + 1 ≤ 1048576 ∧ 0 ≤ s.su.inc + 1 ∧ 0 ≤ s.su.gen + 1 ∧ s.su.gen + 1 ≤ 1099511627776 := by
  obtain ⟨h0, h1, h2, h3, h4, h5, h6, h7, h8, h9⟩ := hm
  simp only [begunSu] at h1 h2 h7 h8
  omega
 refine calls_enter Tryz.func63 rfl 44 rfl rfl ?_; intro a S
 refine wp_seq ?_
 skip
 refine wp_region_lit (qG [1, 1] S ?_); intro a S
 refine nxC (wp_seq (nxD (qG [1] S ?_))); intro a S
 refine qY S (y_eqlPS (by kernel_rfl) S rfl) ?_; intro a S
 refine nxC (st_condF S rfl (wp_skip (then_normal (wp_seq (nxD (qR [1, 1, 2, 1, 4, 1, 1] S M ?_)))))); intro a S
 refine nxC (st_if (t := 14) S rfl ?_ ?_)
 ·intro h14 S
  omega
 intro h14 S
 refine st_condF S rfl (wp_skip (nxE (qG [1, 1, 2, 1] S ?_))); intro a S
 refine qY S (y_loadAgg (cs := [_, _, _, _, _, _, _, _, _, _, _, _, _]) S (by kernel_rfl) rfl rfl (M.cellsAt (k := 13) 0 rfl rfl)) ?_; intro a S
 refine st_alloc S M rfl rfl #[.int .i64 0, .int .i64 0, .int .i64 0, .int .i64 0, .int .i64 0, .int .i64 0, .int .i64 0, .int .i64 0, .int .i64 0, .int .i64 0, .int .i64 0, .int .i64 0, .int .i64 0] (by kernel_rfl) ?_; intro a w1 bU S M hB
 refine qS (sz := 13) (us := [_, _, _, _, _, _, _, _, _, _, _, _, _]) S M 0 ?_; intro w2 M
 refine nxA (qR [4, 1] S M ?_); intro a S
 (first | refine qY S (y_addN S rfl rfl (by omega)) ?_ | refine qY S (y_int S rfl rfl rfl) ?_); intro a S
 refine qG [4] S ?_; intro a S
 refine qS (sz := 1) (us := [_]) S M 0 ?_; intro w3 M
 replace S := S.keep [0, 2, 3, 7, 14, 4]
 refine nxA (qR [1, 1] S M ?_); intro a S
 (first | refine qY S (y_addN S rfl rfl (by omega)) ?_ | refine qY S (y_int S rfl rfl rfl) ?_); intro a S
 refine qG [1] S ?_; intro a S
 refine qS (sz := 1) (us := [_]) S M 0 ?_; intro w4 M
 refine nxC (wp_seq (wp_seq (wp_regionK [5] #[false, false, false, false, false, false, false] rfl M (by kernel_rfl) ?_))); intro w5 M
 refine k_pure 0 S rfl (fun w => y_move S rfl) ?_; intro a S
 refine k_pure 1 S rfl (fun w => y_nilCheck S rfl) ?_; intro a S
 refine k_pure 2 S rfl (fun w => y_fieldAddr (k := 0) S (by kernel_rfl) rfl) ?_; intro a S
 refine k_read 3 S rfl (fun w hW => have M := M.grow hW; y_load S (by kernel_rfl) rfl (M.cell 1 rfl rfl)) ?_; intro a S
 refine k_read 4 S rfl (fun w hW => have M := M.grow hW; y_loadAgg (cs := [_, _, _, _, _, _, _, _, _, _, _, _, _]) S (by kernel_rfl) rfl rfl (M.cellsAt (k := 13) 0 rfl rfl)) ?_; intro a S
 refine k_one 5 rfl (by kernel_rfl) ?_
 refine qC (xs := [.tmp 31, .tmp 32]) S (qE Tryz.func59) rfl (super_any (A := _ :: _ :: A) (begunSu s.su) hE M hup hm hw) ?_
 rintro _ w6 ⟨rfl, E1, hE1, M1⟩; refine ⟨_, rfl, ?_⟩; intro a S; have M := M1; clear M1
 simp only [List.cons_append] at M
 refine nxC ⟨fun h => absurd h (by decide), ?_⟩
 refine k_pure 6 S rfl (fun w => y_assign S rfl) ?_; intro a S
 refine k_end (by kernel_rfl) ?_
 refine nxE (qG [1, 1] S ?_); intro a S
 refine nxC (st_if (t := 35) S rfl ?_ ?_)
 ·intro h35 S
  exact absurd rfl h35
 intro h35 S
 refine st_condF S rfl (wp_skip (nxE (qG [1] S ?_))); intro a S
 refine qY S (y_loadAgg (cs := [_, _, _, _, _, _, _, _, _, _, _, _, _]) S (by kernel_rfl) rfl rfl (M.cellsAt (k := 13) 0 rfl rfl)) ?_; intro a S
 refine qG [1, 2, 1] S ?_; intro a S
 refine qS (sz := 13) (us := [_, _, _, _, _, _, _, _, _, _, _, _, _]) S M 1 ?_; intro w7 M
 replace S := S.keep [0, 2, 3, 7, 14, 4, 5, 35]
 refine nxA (qR [4, 1, 1, 1] S M ?_); intro a S
 refine nxC (wp_ret (end_two S rfl (res_tmp rfl) (res_tmp rfl) ?_))
 exact ⟨rfl, E1, hE1, M.drop 0⟩
end Go.Proofs.YtkkcehcpffamkaaGreat

namespace Go.Proofs.YtkkcehcpffamkaaGreat
open Go.RowKit Go.Sort
set_option maxHeartbeats 1000000 in
theorem formatM_any {wc w : World} {A E : List Ent} {b : Nat} {S0 : DS} (m : Su) (hm : m.mapOk) (hE : DkE b S0 E) (M : Mem wc w (A ++ E)) (hup : S0.down = false) (hw : ∀ k, (S0.cache k).length ≤ 1000) :
 Calls Tryz.prog 38 #[pB b, .agg (mapL m).toArray] w fun e w' => e = .returned (.int .i64 0) ∧ ∃ E', DkE b (S0.write ((suM m).gen % 2) (supS (suM m))).flush E' ∧ Mem wc w' (A ++ E') := by
 unfold mapL
 refine calls_enter Tryz.func38 rfl 28 rfl rfl ?_; intro a S
 refine nxD (st_box S M rfl rfl rfl #[_, _, _, _, _, _, _, _] rfl ?_); intro a w1 bF S M hB
 refine qG [1] S ?_; intro a S
 refine nxC (wp_seq (nxD (qG [1] S ?_))); intro a S
 refine qY S (y_eqlPS (by kernel_rfl) S rfl) ?_; intro a S
 refine nxC (st_condF S rfl (wp_skip (nxE (qQ (xs := []) S (qE Tryz.func58) rfl (firstH_any _) M ?_)))); intro a w2 S hK M
 refine st_alloc S M rfl rfl #[.int .i64 0, .int .i64 0, .int .i64 0, .int .i64 0, .int .i64 0, .int .i64 0, .int .i64 0, .int .i64 0, .int .i64 0, .int .i64 0, .int .i64 0, .int .i64 0, .int .i64 0] (by kernel_rfl) ?_; intro a w3 bU S M hB
 refine qS (sz := 13) (us := [_, _, _, _, _, _, _, _, _, _, _, _, _]) S M 0 ?_; intro w4 M
 refine nxC (wp_seq (wp_regionKC (C := fun W => Blk W bF #[.int .i64 m.m0, .int .i64 m.m1, .int .i64 m.m2, .int .i64 m.m3, .int .i64 m.m4, .int .i64 m.m5, .int .i64 m.m6, .int .i64 m.m7] 54) [2, 4] #[false, false, false, false, false] rfl M (by kernel_rfl) ?_)); intro w5 M; have hC := M.blk 1 rfl
 refine kc_readC 0 S rfl hC (fun w hC => y_loadAgg (cs := [_, _, _, _, _, _, _, _]) S (by kernel_rfl) rfl rfl (Blk.cellsAt (o := 0) (k := 8) hC rfl)) ?_; intro a S
 refine kc_readC 1 S rfl hC (fun w _ => y_fieldAddr (k := 0) S (by kernel_rfl) rfl) ?_; intro a S
 refine kc_one 2 rfl (by kernel_rfl) ?_
 refine qS (sz := 1) (us := [_]) S M 0 ?_; intro w6 M
 replace hC := M.blk 1 rfl
 refine nxC ⟨fun h => absurd h (by decide), hC, ?_⟩
 refine kc_readC 3 S rfl hC (fun w _ => y_fieldAddr (k := 5) S (by kernel_rfl) rfl) ?_; intro a S
 refine kc_one 4 rfl (by kernel_rfl) ?_
 refine qS (sz := 8) (us := [_, _, _, _, _, _, _, _]) S M 0 ?_; intro w7 M
 replace hC := M.blk 1 rfl
 refine nxC ⟨fun h => absurd h (by decide), hC, ?_⟩
 refine kc_end (by kernel_rfl) ?_
 refine then_normal (wp_seq (nxD (qY S (y_loadAgg (cs := [_, _, _, _, _, _, _, _]) S (by kernel_rfl) rfl rfl (M.cellsAt (k := 8) 1 rfl rfl)) ?_))); intro a S
 refine qG [1] S ?_; intro a S
 refine nxC (wp_block (wp_loop_g (fun q a w' => ∃ (k : Nat), k ≤ 8 ∧ q = 8 - k ∧ Sees 28 a [(0, pB b), (5, pB bU), (14, .agg #[.int .i64 m.m0, .int .i64 m.m1, .int .i64 m.m2, .int .i64 m.m3, .int .i64 m.m4, .int .i64 m.m5, .int .i64 m.m6, .int .i64 m.m7]), (15, .int .i64 (k : Int))] ∧ Mem wc w' (.blk bU (suM m).cellsL.toArray 56 :: .blk bF #[.int .i64 m.m0, .int .i64 m.m1, .int .i64 m.m2, .int .i64 m.m3, .int .i64 m.m4, .int .i64 m.m5, .int .i64 m.m6, .int .i64 m.m7] 54 :: (A ++ E))) (8) ?_ ?_))
 ·skip
  exact ⟨0, Nat.zero_le _, rfl, S.sub _ rfl, M⟩
 intro m a wl
 rintro ⟨k, hk, rfl, S, M⟩
 refine nxD (qG [1] S ?_); intro a S
 refine nxC (wp_seq (st_fi (t := 16) S rfl ?_ ?_))
 ·intro h16 S
  refine st_condF S rfl (wp_exit (then_exit (then_exit (block_hit (nxE (qG [1] S ?_)))))); intro a S
  refine qY S (y_loadAgg (cs := [_, _, _, _, _, _, _, _, _, _, _, _, _]) S (by kernel_rfl) rfl rfl (M.cellsAt (k := 13) 0 rfl rfl)) ?_; intro a S
  refine qC (xs := [.tmp 25, .tmp 26]) S (qE Tryz.func59) rfl (super_any (A := _ :: _ :: A) (suM m) hE M hup (suM_may hm) hw) ?_
  rintro _ w8 ⟨rfl, E1, hE1, M1⟩; refine ⟨_, rfl, ?_⟩; intro a S; have M := M1; clear M1
  simp only [List.cons_append] at M
  refine qG [1] S ?_; intro a S
  refine nxC (wp_ret (end_one S rfl (res_tmp rfl) ?_))
  exact ⟨rfl, E1, hE1, (M.drop 0).drop 0⟩
 intro h16 S
 refine st_condT S rfl (wp_skip (then_normal (wp_seq (wp_block (wp_seq ?_)))))
 have hmk := hm k (by omega)
 refine wp_region_lit (qY S (y_indexP (m := 8) (sz := 1) S (by kernel_rfl) (fun e he => by cases he.symm.trans (show _ = some (.array 8 3) by kernel_rfl); kernel_rfl) rfl rfl (by first | omega | (simp; done) | (simp; omega)) (show _ = some (Value.int .i64 (m.mAt k)) from (by rw [Int.toNat_natCast, Nat.mul_one]; rcases lt8 (show k < 8 by omega) with rfl | rfl | rfl | rfl | rfl | rfl | rfl | rfl <;> rfl))) ?_); intro a S
 refine qG [1] S ?_; intro a S
 refine nxA (qG [1, 1, 1] S ?_); intro a S
 refine st_if (t := 20) S rfl ?_ ?_
 ·intro h20 S
  exfalso; omega
 intro h20 S
 refine qG [1, 1, 1] S ?_; intro a S
 refine nxC (st_if (t := 23) S rfl ?_ ?_)
 ·intro h23 S
  exfalso; first | omega | (simp at h23; omega)
 intro h23 S
 refine st_condF S rfl (wp_skip (block_normal (nxF ?_)))
 (first | refine qY S (y_addN S rfl rfl (by omega)) ?_ | refine qY S (y_int S rfl rfl rfl) ?_); intro a S
 refine qG [1] S ?_; intro a S
 refine nxC ?_
 exact ⟨8 - (k + 1), by omega, k + 1, by omega, rfl, S.sub _ rfl, M⟩
end Go.Proofs.YtkkcehcpffamkaaGreat

