/-
  What PartStrict rests on, part 10.
-/
import Derived.Test.YtocppoflhllelaaGreatP7
import Derived.Test.YtocppoflhllelaaGreatP8
import Derived.Test.YtocppoflhllelaaGreatP9
namespace Go.Proofs.YtocppoflhllelaaGreat
open Go.RowKit Go.Sort
section
variable {l bs : List UInt8} {k : Nat}
structure Su where
 gen : Int
 tail : Int
 owned : Int
 inc : Int
 bound : Int
 m0 : Int
 m1 : Int
 m2 : Int
 m3 : Int
 m4 : Int
 m5 : Int
 m6 : Int
 m7 : Int
abbrev Su.cellsL (s : Su) : List Value := [.int .i64 s.gen, .int .i64 s.tail, .int .i64 s.owned, .int .i64 s.inc, .int .i64 s.bound, .int .i64 s.m0, .int .i64 s.m1, .int .i64 s.m2, .int .i64 s.m3, .int .i64 s.m4, .int .i64 s.m5, .int .i64 s.m6, .int .i64 s.m7]
def zSu : Su := ⟨0, 0, 0, 0, 0, 0, 0, 0, 0, 0, 0, 0, 0⟩
def Y6 : Su := ⟨0, 1, 0, 0, 1, 0, 0, 0, 0, 0, 0, 0, 0⟩
def Su.mAt (o : Su) : Nat → Int
 | 0 => o.m0 | 1 => o.m1 | 2 => o.m2 | 3 => o.m3 | 4 => o.m4 | 5 => o.m5 | 6 => o.m6 | _ => o.m7
theorem lt8 (h : k < 8) : k = 0 ∨ k = 1 ∨ k = 2 ∨ k = 3 ∨ k = 4 ∨ k = 5 ∨ k = 6 ∨ k = 7 := by omega
theorem Su.mAt_cell (o : Su) (h : k < 8) : o.cellsL.toArray[5 + k]? = some (.int .i64 (o.mAt k)) := by
 rcases lt8 h with rfl | rfl | rfl | rfl | rfl | rfl | rfl | rfl <;> rfl
def Su.mSet (o : Su) (k : Nat) (v : Int) : Su := { o with m0 := if k = 0 then v else o.m0, m1 := if k = 1 then v else o.m1, m2 := if k = 2 then v else o.m2, m3 := if k = 3 then v else o.m3, m4 := if k = 4 then v else o.m4, m5 := if k = 5 then v else o.m5, m6 := if k = 6 then v else o.m6, m7 := if k = 7 then v else o.m7 }
theorem Su.mSet_cell (o : Su) (v : Int) (h : k < 8) : Jt o.cellsL (5 + k) [.int .i64 v] = (o.mSet k v).cellsL := by
 rcases lt8 h with rfl | rfl | rfl | rfl | rfl | rfl | rfl | rfl <;> rfl
def Su.mapOk (s : Su) : Prop := ∀ k, k < 8 → 0 ≤ s.mAt k ∧ s.mAt k ≤ 4
instance (s : Su) : Decidable s.mapOk := inferInstanceAs (Decidable (∀ k, k < 8 → _))
def Su.may (s : Su) : Prop := s.mapOk ∧ 0 ≤ s.gen ∧ s.gen ≤ 1099511627776 ∧ 1 ≤ s.tail ∧ s.tail ≤ 1099511627776 ∧ 0 ≤ s.owned ∧ s.owned ≤ 255 ∧ 0 ≤ s.inc ∧ s.inc ≤ 1048576 ∧ 1 ≤ s.bound ∧ s.bound ≤ 1048577
instance (s : Su) : Decidable s.may := inferInstanceAs (Decidable (_ ∧ _))
def JB (l : List UInt8) : Bool := l.all fun x => x == 0
theorem KI (h : ∀ (i : Nat) (x : UInt8), l[i]? = some x → x = 0) : JB l = true := by
 grind [JB, List.mem_iff_getElem?]
theorem WB {i : Nat} {x : UInt8} (h : l[i]? = some x) (hx : x ≠ 0) : JB l = false := by
 unfold JB; rw [List.all_eq_false]
 exact ⟨x, List.mem_of_getElem? h, by grind⟩
theorem JcK (h : JB l = true) : l = List.replicate l.length 0 := by
 grind [JB, List.eq_replicate_iff]
noncomputable def YD (bs : List UInt8) (n : Nat) : Bool := JB (bs.drop (n + 4)) && vH (bs.take (n + 4))
def JZ (bs : List UInt8) (at_ k : Nat) : Int := (leN ((bs.drop at_).take k) : Nat)
def Zv (bs : List UInt8) : Su := ⟨JZ bs 0 6, JZ bs 6 6, JZ bs 12 1, JZ bs 13 3, JZ bs 16 3, JZ bs 19 1, JZ bs 20 1, JZ bs 21 1, JZ bs 22 1, JZ bs 23 1, JZ bs 24 1, JZ bs 25 1, JZ bs 26 1⟩
noncomputable def ZO (bs : List UInt8) (k : Nat) : Option Su := if YD bs 27 = true ∧ (Zv (bs.take 27)).may ∧ (Zv (bs.take 27)).gen % 2 = (k : Int) then some (Zv (bs.take 27)) else none
noncomputable def J7 (sec : Nat → List UInt8) : Nat → Option Su
 | 0 => none
 | n + 1 => match ZO (sec n) n with
   | none => J7 sec n
   | some x => match J7 sec n with
     | none => some x
     | some y => if y.gen < x.gen then some x else some y
noncomputable def gsR (sec : Nat → List UInt8) : Su × Int := match J7 sec 2 with
 | some x => (x, 0)
 | none => if JB (sec 0) && JB (sec 1) then (Y6, 0) else (zSu, 40)
theorem Jil : ¬ Yj (List.replicate 31 0) := by
 have e : (List.replicate 31 0 : List UInt8) = List.replicate 27 0 ++ List.replicate 4 0 := rfl
 rw [e, Yl rfl]
 decide +kernel
theorem GP (h : JB bs = true) (hl : bs.length = 64) : ZO bs k = none := by
 grind [ZO, YD, JcK, vG, Jil]
theorem JaG (bs : List UInt8) : 0 ≤ (Zv bs).gen := Int.natCast_nonneg _
theorem DA {x : Su} (h : ZO bs k = some x) : x.may := by
 grind [ZO]
theorem Jd3 {p j : Nat} {x : UInt8} (hx : (bs.drop p)[j]? = some x) (_ : j ≤ 5) : JZ bs p j + ((x.toNat * 2 ^ (8 * j) : Nat) : Int) = JZ bs p (j + 1) := by
 have hl := G6 ((bs.drop p).take j)
 have hl2 : leN ((bs.drop p).take j) < 2 ^ (8 * j) := Nat.lt_of_lt_of_le hl (by
  grind [Nat.pow_mul])
 unfold JZ
 rw [← Ee hx, JdX hl2]
 simp
theorem JaN (bs : List UInt8) (p : Nat) {j : Nat} (hj : j ≤ 6) : 0 ≤ JZ bs p j ∧ JZ bs p j < 2 ^ 48 := by
 have hl := G6 ((bs.drop p).take j)
 have hl2 : leN ((bs.drop p).take j) < 2 ^ 48 := Nat.lt_of_lt_of_le hl (by
  rw [show (256 : Nat) = 2 ^ 8 from rfl, ← Nat.pow_mul]; exact Nat.pow_le_pow_right o_ (by grind))
 grind [JZ]
def OpnP (bs : List UInt8) (n : Nat) (w : World) (e : Ending) (w' : World) : Prop :=
 ∃ v', e = .returned (.tuple #[v', .bool (YD bs n)]) ∧ Below w.heap.size w w' ∧ (YD bs n = true → Fresh w w' 5 1 v' n (Jh (bs.take n))) ∧ (YD bs n = false → v' = .slice none 0 0)
theorem JaK {n : Nat} {w w' : World} {H : List Ent} (M : Mem w w' H) (h : YD bs n = false) : OpnP bs n w (.returned (.tuple #[.slice none 0 0, .bool false])) w' :=
 ⟨_, by rw [h], M.below, fun h' => absurd (h.symm.trans h') d_, fun _ => rfl⟩
theorem OpnP.mk {n : Nat} {w w1 w2 : World} {v2 : Value} (hz : JB (bs.drop (n + 4)) = true) (hn : n + 4 ≤ bs.length) (h1 : Below w.heap.size w w1) (h2 : Below w.heap.size w w2)
 (hF : Yj (bs.take (n + 4)) → Fresh w1 w2 5 1 v2 ((bs.take (n + 4)).take ((bs.take (n + 4)).length - 4)).length (Jh ((bs.take (n + 4)).take ((bs.take (n + 4)).length - 4)))) (hN : ¬ Yj (bs.take (n + 4)) → v2 = .slice none 0 0) :
 OpnP bs n w (.returned (.tuple #[v2, .bool (vH (bs.take (n + 4)))])) w2 := by
 have e : YD bs n = vH (bs.take (n + 4)) := by grind [YD]
 have hl : (bs.take (n + 4)).length - 4 = n := by grind
 refine ⟨v2, by rw [e], h2, fun h => ?_, fun h => hN ?_⟩
 ·rw [e] at h
  have := hF (by grind [vH])
  rw [hl, List.take_take, show min n (n + 4) = n by omega] at this
  have hn' : (bs.take n).length = n := by grind
  rw [hn'] at this
  exact this.from h1
 grind [vH]
def QI (b : List UInt8) (k : Nat) : Su := ⟨JZ b 0 6, JZ b 6 6, JZ b 12 1, JZ b 13 3, JZ b 16 3, if 0 < k then JZ b 19 1 else 0, if 1 < k then JZ b 20 1 else 0, if 2 < k then JZ b 21 1 else 0, if 3 < k then JZ b 22 1 else 0, if 4 < k then JZ b 23 1 else 0, if 5 < k then JZ b 24 1 else 0, if 6 < k then JZ b 25 1 else 0, if 7 < k then JZ b 26 1 else 0⟩
theorem WM (b : List UInt8) : QI b 8 = Zv b := rfl
theorem QH (b : List UInt8) (h : k < 8) : (QI b k).mSet k (JZ b (19 + k) 1) = QI b (k + 1) := by
 rcases lt8 h with rfl | rfl | rfl | rfl | rfl | rfl | rfl | rfl <;> rfl
theorem ze {sec : Nat → List UInt8} {x : Su} : ∀ {i : Nat}, J7 sec i = some x → x.may
 | 0, h => by cases h
 | i + 1, h => by
   rw [J7] at h
   cases hs : ZO (sec i) i with
   | none => rw [hs] at h; exact ze h
   | some y =>
     rw [hs] at h
     cases hb : J7 sec i with
     | none => grind [DA]
     | some z =>
       rw [hb] at h
       simp only at h
       split at h
       ·grind [DA]
       ·cases h; exact ze hb
end
def Su.nums (s : Su) : List (Int × Nat) := [(s.gen, 6), (s.tail, 6), (s.owned, 1), (s.inc, 3), (s.bound, 3), (s.m0, 1), (s.m1, 1), (s.m2, 1), (s.m3, 1), (s.m4, 1), (s.m5, 1), (s.m6, 1), (s.m7, 1)]
def Vy (l : List (Int × Nat)) : List UInt8 := l.flatMap fun p => leB p.1 p.2
def GQ (s : Su) : List UInt8 := VQ (Vy s.nums)
def VN (s : Su) : List UInt8 := GQ s ++ List.replicate 33 0
theorem y6 (l : List (Int × Nat)) : (Vy l).length = (l.map (·.2)).sum := by
 induction l with
 | nil => rfl
 | cons p l ih => grind [Vy, Jl]
theorem Su.nums_len (s : Su) : (Vy s.nums).length = 27 := by rw [y6]; rfl
theorem zS (s : Su) : (GQ s).length = 31 := by unfold GQ VQ; rw [List.length_append, s.nums_len]; rfl
theorem Jfh (s : Su) : (VN s).length = 64 := by grind [VN, zS]
theorem Ef : ∀ (k : Nat) {n : Int}, 0 ≤ n → n < 256 ^ k → (leN (leB n k) : Int) = n
 | 0, n, h0, h => by simp only [Int.pow_zero] at h; obtain rfl : n = 0 := by omega
                     rfl
 | k + 1, n, h0, h => by
   have e : leB n (k + 1) = V4 n :: leB (n / 256) k := by
    unfold leB
    rw [List.range_succ_eq_map, List.map_cons, List.map_map]
    grind [List.map_congr_left, Int.ediv_ediv_of_nonneg]
   have ih := Ef k (n := n / 256) o_ (by
    omega)
   grind [leN, EF]
theorem JhO (pre post : List UInt8) {n : Int} {k : Nat} (h0 : 0 ≤ n) (h : n < 256 ^ k) : JZ (pre ++ (leB n k ++ post)) pre.length k = n := by
 grind [JZ, Jl, Ef]
theorem Jc5 {s : Su} (h : s.may) : Zv (Vy s.nums) = s := by
 obtain ⟨hm, h1, h2, h3, h4, h5, h6, h7, h8, h9, h10⟩ := h
 have m : ∀ k, k < 8 → 0 ≤ s.mAt k ∧ s.mAt k < 256 := fun k hk => by have := hm k hk; omega
 have q0 := m 0 o_; have q1 := m 1 o_; have q2 := m 2 o_; have q3 := m 3 o_
 have q4 := m 4 o_; have q5 := m 5 o_; have q6 := m 6 o_; have q7 := m 7 o_
 simp only [Su.mAt] at q0 q1 q2 q3 q4 q5 q6 q7
 have key : ∀ (a b : List (Int × Nat)) (n : Int) (k p : Nat), s.nums = a ++ (n, k) :: b → (a.map (·.2)).sum = p → 0 ≤ n → n < 256 ^ k → JZ (Vy s.nums) p k = n := by
  intro a b n k p e hp h0 h
  have e2 : Vy s.nums = Vy a ++ (leB n k ++ Vy b) := by grind [Vy]
  grind [y6, JhO]
 have e0 := key [] _ s.gen 6 0 rfl rfl o_ o_
 have e1 := key [_] _ s.tail 6 6 rfl rfl o_ o_
 have e2 := key [_, _] _ s.owned 1 12 rfl rfl o_ o_
 have e3 := key [_, _, _] _ s.inc 3 13 rfl rfl o_ o_
 have e4 := key [_, _, _, _] _ s.bound 3 16 rfl rfl o_ o_
 have f0 := key [_, _, _, _, _] _ s.m0 1 19 rfl rfl o_ o_
 have f1 := key [_, _, _, _, _, _] _ s.m1 1 20 rfl rfl o_ o_
 have f2 := key [_, _, _, _, _, _, _] _ s.m2 1 21 rfl rfl o_ o_
 have f3 := key [_, _, _, _, _, _, _, _] _ s.m3 1 22 rfl rfl o_ o_
 have f4 := key [_, _, _, _, _, _, _, _, _] _ s.m4 1 23 rfl rfl o_ o_
 have f5 := key [_, _, _, _, _, _, _, _, _, _] _ s.m5 1 24 rfl rfl o_ o_
 have f6 := key [_, _, _, _, _, _, _, _, _, _, _] _ s.m6 1 25 rfl rfl o_ o_
 have f7 := key [_, _, _, _, _, _, _, _, _, _, _, _] _ s.m7 1 26 rfl rfl o_ o_
 unfold Zv
 simp_all
theorem Qx (n : Nat) : JB (List.replicate n 0) = true := by grind [JB]
theorem Dz {s : Su} (h : s.may) {k : Nat} (hk : s.gen % 2 = (k : Int)) : ZO (VN s) k = some s := by
 have hl := zS s
 have e27 : (VN s).take 27 = Vy s.nums := by
  unfold VN GQ VQ
  rw [List.append_assoc, List.take_append_of_le_length (by rw [s.nums_len]; omega), List.take_of_length_le (by rw [s.nums_len]; omega)]
 grind [VN, GQ, ZO, Jc5, YD, Qx, Gf, Yj]
structure SupI (sec : Nat → List UInt8) (s : Su) : Prop where
 may : s.may
 here : sec (s.gen % 2).toNat = VN s
 there : ∀ k x, k < 2 → k ≠ (s.gen % 2).toNat → ZO (sec k) k = some x → x.gen < s.gen
theorem SupI.gs {sec : Nat → List UInt8} {s : Su} (h : SupI sec s) : gsR sec = (s, 0) := by
 have hm : s.gen % 2 = 0 ∨ s.gen % 2 = 1 := by omega
 unfold gsR J7
 rcases hm with hg | hg
 ·have h0 : ZO (sec 0) 0 = some s := by have := h.here; rw [hg] at this; rw [show sec 0 = VN s from this]; exact Dz h.may hg
  have h1 := h.there 1
  grind [J7]
 ·have h1 : ZO (sec 1) 1 = some s := by have := h.here; rw [hg] at this; rw [show sec 1 = VN s from this]; exact Dz h.may hg
  have h0 := h.there 0
  grind [J7]
section
variable {ds : List Deferred}
variable {P : Program} {ops : Array Oper} {Q : Exit → Act → World → Prop} {rest : List Oper} {n d : Nat} {a : Act} {L : List (Nat × Value)} {w w0 : World} {v : Value} {o : Oper} {H : List Ent}
/-! ### keys -/
theorem JhU {kt : TypeId} (hk : P.underlying kt = some (.int .i64)) : KeyT P kt (fun z : Int => Value.int .i64 z) := by
 have hnow : ∀ (k : Int) (l : Mes Int) (i : Nat), (∀ p ∈ l, p.2.key = .int .i64 p.1) → Instr.findNow (.int .i64) (.int .i64 k) (l.map (·.2)) i = some (vq k l i) := by
  intro k l
  induction l with
  | nil => intro i _; rfl
  | cons p l ih =>
    grind [Instr.findNow, Instr.sameNow, vq]
 refine ⟨fun k l w h => ?_, fun b k w => ?_, fun k => by simp [Instr.sameBits]⟩
 ·simp only [Instr.findKey, Sem.run_bind, run_underlying hk, Result.andThen, hnow k l 0 h, Sem.run_pure]
 ·rw [show (10000 : Nat) = 9999 + 1 from rfl, Instr.checkKey]
  simp only [Sem.run_bind, run_underlying hk, Result.andThen, Sem.run_pure]
section
variable {κ : Type} {enc : κ → Value}
theorem Zh {t : TypeId} (S : SeesD ds n a L) (M : Mem w0 w H) {d : Nat} {ty : TypeId} {p : String} {e : Array Edge} {g : Option (Nat × Bool)} (hg : gd ops L ⟨some d, .makeMap t none, ty, p, e, g⟩ = some true) (hn : Nat.blt d n = true)
 (k : ∀ a w' b, SeesD ds n a ((d, .map (some b)) :: L) → Mem w0 w' (J0 b ([] : Mes κ) 0 :: H) → Below w.heap.size w w' → wpList P ops Q rest a w') : wpList P ops Q (⟨some d, .makeMap t none, ty, p, e, g⟩ :: rest) a w := by
 refine ZP (v := .map (some w.heap.size)) (w' := w.alloc (.map #[] 0)) S hg rfl hn ?_ fun a S => k a _ w.heap.size S ?_ (Vd (JE _) _)
 ·unfold execOp
  simp [Instr.makeMap, newObj, Sem.run, go_sem]
 ·refine M.push (Vd (JE _) _) _ (fun W' hs => ?_) (Nat.le_refl _) (by simp [Ent.hi])
  show W'.heap[w.heap.size]? = _
  rw [hs w.heap.size (Nat.le_refl _) (Nat.lt_succ_self _)]; exact World.alloc_heap_new w _
abbrev itX (r b since : Nat) (seen : List Nat) (c0 : Nat) : Ent := .own r (r + 1) fun W => W.heap[r]? = some (.mapIter (some b) since seen.toArray c0)
theorem Jdh {t kt e b c pos : Nat} {l : Mes κ} {x : Operand} (S : SeesD ds n a L) (M : Mem w0 w H) (ht : P.underlying t = some (.map kt e)) (hp : H[pos]? = some (J0 b l c)) (hx : val L x = some (.map (some b))) {d : Nat} {ty : TypeId} {p : String} {ed : Array Edge} {g : Option (Nat × Bool)} (hg : gd ops L ⟨some d, .range t x, ty, p, ed, g⟩ = some true) (hn : Nat.blt d n = true)
 (k : ∀ a w' r, SeesD ds n a ((d, p_ r) :: L) → Mem w0 w' (itX r b c [] c :: H) → Below w.heap.size w w' → wpList P ops Q rest a w') : wpList P ops Q (⟨some d, .range t x, ty, p, ed, g⟩ :: rest) a w := by
 have hb := M.mapAt hp
 refine ZP (v := .pointer (some ⟨w.heap.size, 0, none⟩)) (w' := w.alloc (.mapIter (some b) c #[] c)) S hg rfl hn ?_ fun a S => k a _ w.heap.size S ?_ (Vd (JE _) _)
 ·unfold execOp
  simp only [S.eval hx]
  simp [Instr.range, run_underlying ht, getObj, newObj, Sem.run, hb, go_sem]
 ·refine M.push (Vd (JE _) _) _ (fun W' hs => ?_) (Nat.le_refl _) (by simp [Ent.hi])
  show W'.heap[w.heap.size]? = _
  rw [hs w.heap.size (Nat.le_refl _) (Nat.lt_succ_self _)]; exact World.alloc_heap_new w _
abbrev Ze (vs : Mes κ) : List Nat := vs.map (·.2.born)
theorem JgA {l : Mes κ} {c : Nat} (G : Good enc l c) {p q : κ × MapEntry} (hp : p ∈ l) (hq : q ∈ l) (e : p.2.born = q.2.born) : p = q := by
 obtain ⟨i, hi⟩ := List.getElem?_of_mem hp
 obtain ⟨j, hj⟩ := List.getElem?_of_mem hq
 have h1 : (l.map (·.2.born))[i]? = some p.2.born := by grind
 have h2 : (l.map (·.2.born))[j]? = some q.2.born := by grind
 have hn : (l.map (·.2.born)).Nodup := G.born.imp fun h => Nat.ne_of_lt h
 grind [List.getElem?_inj]
theorem Jfl {b c r pos pm : Nat} {l vs : Mes κ} {x : Operand} (S : SeesD ds n a L) (M : Mem w0 w H) (G : Good enc l c) (hv : ∀ p ∈ vs, p ∈ l) (hp : H[pos]? = some (itX r b c (Ze vs) c)) (hm : H[pm]? = some (J0 b l c)) (hx : val L x = some (p_ r)) {d : Nat} {ty : TypeId} {p : String} {ed : Array Edge} {g : Option (Nat × Bool)} (hg : gd ops L ⟨some d, .next x false, ty, p, ed, g⟩ = some true) (hn : Nat.blt d n = true)
 (k1 : (∀ q ∈ l, q ∈ vs) → ∀ a, SeesD ds n a ((d, .tuple #[.bool false]) :: L) → wpList P ops Q rest a w)
 (k2 : ∀ q ∈ l, q ∉ vs → ∀ a w', SeesD ds n a ((d, .tuple #[.bool true, enc q.1, q.2.val]) :: L) → Mem w0 w' (H.set pos (itX r b c (Ze (vs ++ [q])) c)) → wpList P ops Q rest a w') : wpList P ops Q (⟨some d, .next x false, ty, p, ed, g⟩ :: rest) a w := by
 have hb := M.mapAt hm
 have hr : w.heap[r]? = some (.mapIter (some b) c (Ze vs).toArray c) := M.own pos hp
 have hmem : ∀ e : MapEntry, e ∈ (l.map (·.2)).toArray.toList ↔ ∃ q ∈ l, q.2 = e := fun e => by grind
 rcases run_next_at (P := P) w ty r b c c (Ze vs).toArray (l.map (·.2)).toArray c hr hb (fun e he => by obtain ⟨q, hq, rfl⟩ := (hmem e).1 he; exact G.old q hq) (Nat.le_refl _) with ⟨h0, hrun⟩ | ⟨e, he, w1, hw1, hrun⟩
 ·refine ZP S hg rfl hn (by unfold execOp; simp only [S.eval hx]; simp_all) fun a S => k1 (fun q hq => ?_) a S
  have hall : ∀ e ∈ (l.map (·.2)).toArray, (Ze vs).toArray.contains e.born = true := by
   grind [leftOf, Array.filter_eq_empty_iff]
  have h1 := hall q.2 (by grind)
  grind [JgA]
 ·have he' : e ∈ (l.map (·.2)).toArray ∧ e.born ∉ Ze vs := by
   grind [leftOf]
  obtain ⟨q, hq, rfl⟩ := (hmem e).1 (by grind)
  have hM1 : Mem w0 w1 H := by rcases hw1 with rfl | rfl; exact M; exact M.drew
  refine ZP S hg rfl hn (w' := ChangeMaps.setBlock w1 r (.mapIter (some b) c ((Ze vs).toArray.push q.2.born) c)) (by unfold execOp; simp only [S.eval hx]; rw [show ∀ s : Sem Value, Sem.run P (do let v ← s; pure (Next.value v)) w = (Sem.run P s w).andThen fun v w => .ok (.value v) w from fun s => by simp_all, hrun]; rfl) fun a S => k2 q hq (fun h => he'.2 (List.mem_map_of_mem h)) a _ (by rw [G.keys q hq] at S; exact S) ?_
  have hr1 : w1.heap[r]? = some (.mapIter (some b) c (Ze vs).toArray c) := hM1.own pos hp
  have hlt := (Array.getElem?_eq_some_iff.1 hr1).1
  refine hM1.change (e' := itX r b c (Ze (vs ++ [q])) c) pos hp rfl rfl (fun W' hs => ?_) (by simp [ChangeMaps.setBlock]) rfl rfl rfl (fun k hk => ?_)
  ·show W'.heap[r]? = _
   rw [hs r (Nat.le_refl _) (Nat.lt_succ_self _)]
   grind [ChangeMaps.setBlock]
  grind [Ent.lo, Ent.hi, ChangeMaps.setBlock]
theorem Je7 {b c r pos pm : Nat} {l vs : Mes κ} {x : Operand} {q : κ × MapEntry} (S : SeesD ds n a L) (M : Mem w0 w H) (G : Good enc l c) (hq : q ∈ l) (hp : H[pos]? = some (itX r b c (Ze (vs ++ [q])) c)) (hm : H[pm]? = some (J0 b l c)) (hx : val L x = some (p_ r)) {d : Option Tmp} {ty : TypeId} {p : String} {ed : Array Edge} {g : Option (Nat × Bool)} :
 Je P a ⟨d, .entry x, ty, p, ed, g⟩ w (.tuple #[enc q.1, q.2.val]) := by
 have hb := M.mapAt hm
 have hr : w.heap[r]? = some (.mapIter (some b) c ((Ze vs).toArray.push q.2.born) c) := by
  have := M.own pos hp
  grind
 have h := run_entry_at (P := P) w r b c (Ze vs).toArray (l.map (·.2)).toArray c q.2 hr hb (by grind) (by
  have : (l.map (·.2)).toArray.toList.map (·.born) = l.map (·.2.born) := by simp
  rw [this]; exact G.born.imp fun h => Nat.ne_of_lt h)
 unfold Je execOp
 simp only [S.eval hx, Sem.run_bind, h, Result.andThen, G.keys q hq]
 rfl
theorem Jdi {t kt e b c pos : Nat} {l : Mes κ} {x : Operand} (S : SeesD ds n a L) (M : Mem w0 w H) (ht : P.underlying t = some (.map kt e)) (hp : H[pos]? = some (J0 b l c)) (hx : val L x = some (.map (some b))) {ty : TypeId} {p : String} {ed : Array Edge} {g : Option (Nat × Bool)}
 (hg : gd ops L ⟨none, .call { callee := .builtin .clear, args := #[x], argTypes := #[t] }, ty, p, ed, g⟩ = some true)
 (k : ∀ w', Mem w0 w' (H.set pos (J0 b ([] : Mes κ) c)) → wpList P ops Q rest a w') : wpList P ops Q (⟨none, .call { callee := .builtin .clear, args := #[x], argTypes := #[t] }, ty, p, ed, g⟩ :: rest) a w := by
 have hb := M.mapAt hp
 refine Jir (v := .tuple #[]) (w' := w.putObj b (.map (([] : Mes κ).map (·.2)).toArray c)) S hg rfl ?_ (k _ (M.mapSet hp))
 obtain ⟨cs, h⟩ := Vt (P := P) (w := w) (b := .clear) (xs := [x]) (vs := [.map (some b)]) S (by simp [Vl, hx]) (d := none) (ts := #[t]) (t := ty) (p := p) (e := ed) (g := g)
 rw [h]
 simp [Builtin.clear_, run_underlying ht, getObj, setObj, Sem.run, hb, World.putObj, go_sem]
end
section
variable {κ : Type} [DecidableEq κ] {enc : κ → Value}
theorem V9 {t kt e b c pos : Nat} {l : Mes κ} {z : Value} {k : κ} {cm : Bool} {x y : Operand} (S : SeesD ds n a L) (M : Mem w0 w H) (K : KeyT P kt enc) (G : Good enc l c) (ht : P.underlying t = some (.map kt e)) (hz : ∀ w, (zeroValue e).run P w = .ok z w) (hp : H[pos]? = some (J0 b l c)) (hx : val L x = some (.map (some b))) (hy : val L y = some (enc k)) {d : Option Tmp} {ty : TypeId} {p : String} {ed : Array Edge} {g : Option (Nat × Bool)} :
 Je P a ⟨d, .lookup t x y cm, ty, p, ed, g⟩ w (if cm = true then .tuple #[(VJ l k).getD z, .bool (decide (k ∈ l.map (·.1)))] else (VJ l k).getD z) := by
 unfold Je execOp
 simp only [S.eval hx, S.eval hy, Sem.run_bind, KM K G ht (hz w) (M.mapAt hp), Result.andThen]
 rfl
theorem VU {t kt e b c pos : Nat} {l : Mes κ} {k : κ} {x y z : Operand} (S : SeesD ds n a L) (M : Mem w0 w H) (K : KeyT P kt enc) (G : Good enc l c) (ht : P.underlying t = some (.map kt e)) (hp : H[pos]? = some (J0 b l c)) (hx : val L x = some (.map (some b))) (hy : val L y = some (enc k)) (hz : val L z = some v) {ty : TypeId} {p : String} {ed : Array Edge} {g : Option (Nat × Bool)}
 (hg : gd ops L ⟨none, .mapUpdate t x y z, ty, p, ed, g⟩ = some true)
 (kk : ∀ w', Mem w0 w' (H.set pos (J0 b (Yg enc l c k v).1 (Yg enc l c k v).2)) → wpList P ops Q rest a w') : wpList P ops Q (⟨none, .mapUpdate t x y z, ty, p, ed, g⟩ :: rest) a w := by
 refine Jis S hg rfl ?_ (kk _ (M.mapSet hp))
 unfold execOp
 simp only [S.eval hx, S.eval hy, S.eval hz, Sem.run_bind, EW K G ht (M.mapAt hp), Result.andThen]
 rfl
end
theorem JcS {κ : Type} [DecidableEq κ] {enc : κ → Value} {ds : List Deferred} {P : Program} {n : Nat} {a : Act} {L : List (Nat × Value)} {w : World} {t kt e b c : Nat} {l : Mes κ} {z : Value} {k : κ} {cm : Bool} {x y : Operand} (S : SeesD ds n a L) (hb : w.heap[b]? = some (.map (l.map (·.2)).toArray c)) (K : KeyT P kt enc) (G : Good enc l c) (ht : P.underlying t = some (.map kt e)) (hz : ∀ w, (zeroValue e).run P w = .ok z w) (hx : val L x = some (.map (some b))) (hy : val L y = some (enc k)) {d : Option Tmp} {ty : TypeId} {p : String} {ed : Array Edge} {g : Option (Nat × Bool)} :
 Je P a ⟨d, .lookup t x y cm, ty, p, ed, g⟩ w (if cm = true then .tuple #[(VJ l k).getD z, .bool (decide (k ∈ l.map (·.1)))] else (VJ l k).getD z) := by
 unfold Je execOp
 simp only [S.eval hx, S.eval hy, Sem.run_bind, KM K G ht (hz w) hb, Result.andThen]
 rfl
end
theorem Wp (d : Nat) (p q : PlL) (w : World) : (Op.equalIn (d + 3) 215 (.agg (PlL.cellsL p).toArray) (.agg (PlL.cellsL q).toArray)).run Tryz.prog w = .ok (decide (p = q)) w := by
 have e : decide (p = q) = (p.1.eqb q.1 && p.2 == q.2) := by
  grind [Nm.eqb_iff]
 rw [e]
 simp [go_sem, Nm.eqb]
 grind
abbrev encP (p : PlL) : Value := .agg (PlL.cellsL p).toArray
theorem JjA (p : PlL) : Instr.sameBits 10000 (encP p) (encP p) = true := by
 rw [show (10000 : Nat) = 9999 + 1 from rfl]
 simp [Instr.sameBits]
theorem Jja (b : Bool) (p : PlL) (w : World) : (Instr.checkKey b 10000 215 (encP p)).run Tryz.prog w = .ok () w := by
 kernel_rfl
theorem zr : KeyT Tryz.prog 215 encP := by
 refine ⟨fun k l w h => ?_, Jja, JjA⟩
 have hask : ∀ (l : Mes PlL) (i : Nat), (∀ p ∈ l, p.2.key = encP p.1) → (Instr.findAsking 215 (encP k) (l.map (·.2)) i).run Tryz.prog w = .ok (vq k l i) w := by
  intro l
  induction l with
  | nil => intro i _; rfl
  | cons p l ih =>
    intro i h
    have e : (Op.equal 215 (encP k) (encP p.1)).run Tryz.prog w = .ok (decide (k = p.1)) w := Wp 9997 k p.1 w
    rw [List.map_cons, Instr.findAsking, h p (List.mem_cons_self ..), Sem.run_bind, e]
    simp only [Result.andThen, vq]
    by_cases hk : k = p.1
    ·simp_all
    grind
 simp only [Instr.findKey, Sem.run_bind, run_underlying Tryz.underlying215, Result.andThen]
 cases l with
 | nil => rfl
 | cons p l =>
   have e : ∀ fs, Instr.findNow (.struct fs) (encP k) ((p :: l).map (·.2)) 0 = none := fun fs => by
    rw [List.map_cons, Instr.findNow]; rfl
   grind
theorem Lk.pl_iff {x : Lk} {n : Nm} {k : Int} : x.pl = (n, k) ↔ x.name.eqb n = true ∧ x.block = k := by
 rw [Nm.eqb_iff]; exact Prod.ext_iff
theorem Gn (l : List Lk) (x : Lk) (p : PlL) : J1 (l ++ [x]) p = if x.pl = p then max (J1 l p) x.mode else J1 l p := by
 grind [J1]
theorem JaQ (x : Lk) : 1 ≤ x.mode ∧ x.mode ≤ 2 := by grind [Lk.mode]
abbrev zh (ha wa : Option Addr) (hn hc wn wc : Nat) : Value := .agg #[.slice ha hn hc, .slice wa wn wc]
set_option maxHeartbeats 1000000 in
theorem Ka (ha wa : Option Addr) (hc wn wc : Nat) (l : List Lk) (n : Nm) (k : Int) (w : World) (hv : LsL 0 w.heap.size w (.slice ha l.length hc) l) :
 CQ 69 #[zh ha wa l.length hc wn wc, .agg n.cells, .int .i64 k] w (.int .i8 (J1 l (n, k))) := by
 have M := Mem.start w
 have hl := hv.2.1
 unfold maxLen at hl
 refine qI Tryz.func69 33 ?_; intro a S
 refine nxD (qW_ S M ?_); intro a w1 bT S M hB
 refine qW_ S M ?_; intro a w2 bN S M hB
 refine gp [[0,1],[4,1],[5,1,2],[903,110],[0,1],[3]] ?_; intro a S
 refine Jc (fun m a w' => ∃ (i : Nat), i ≤ l.length ∧ m = l.length - i ∧ Jk 33 a [(2, .int .i64 k), (4, p_ bN), (7, .int .i8 (J1 (l.take i) (n, k))), (11, .slice ha l.length hc), (12, .int .i64 (l.length : Int)), (13, .int .i64 (i : Int))] ∧ Mem w w' [.blk bN n.cells 43]) (l.length) ?_ ?_
 ·skip
  replace M := M.drp 1
  exact ⟨0, Nat.zero_le _, rfl, S.sub _ rfl, M⟩
 intro m a wl
 rintro ⟨i, hi', rfl, S, M⟩
 refine gq [[2,1],[3],[943,14]] ?_ ?_
 ·intro a h14 S
  refine gp [[8,1,1],[3],[930]] ?_
  obtain rfl : i = l.length := by omega
  exact ⟨by grind, M.below⟩
 intro a h14 S
 refine gp [[6]] ?_; intro a S
 obtain ⟨x, hx⟩ : ∃ x, l[i]? = some x := ⟨_, List.getElem?_eq_getElem o_⟩
 refine gp [[1],[907,110,5]] ?_; intro a S
 refine qY S (Ja S k_ rfl rfl ((M.arg hv).at_.row (i := i) (J6 hx) rfl)) ?_; intro a S
 refine qN S M yg ?_; intro a w3 bX S M hB
 refine go [[900,0],[4,1],[902,0,3],[902,1,3]] ?_; intro a w4 S M
 refine qY S (VI k_ S rfl rfl (fun w => VG 9998 x.name n w)) ?_
 refine gp [[0,1]] ?_; intro a S
 refine Jm (t := 21) S rfl ?_ ?_
 ·intro h21 S
  refine gp [[0,0,0,0,0,1],[7],[901],[0,1],[2]] ?_; intro a S
  replace M := M.drp 0
  have e : J1 (l.take (i + 1)) (n, k) = if x.pl = (n, k) then max (J1 (l.take i) (n, k)) x.mode else J1 (l.take i) (n, k) := by
   grind [List.take_add_one, Gn]
  refine ⟨l.length - (i + 1), by omega, i + 1, by omega, rfl, ?_, M⟩
  rw [e]
  (rw [if_neg (fun h => by grind [Lk.pl_iff])]; exact S.sub _ rfl)
 intro h21 S
 refine gq [[0,4,1,1,1,1],[2],[943,26]] ?_ ?_
 ·intro a h26 S
  refine gp [[5],[901],[0,1],[2]] ?_; intro a S
  replace M := M.drp 0
  have e : J1 (l.take (i + 1)) (n, k) = if x.pl = (n, k) then max (J1 (l.take i) (n, k)) x.mode else J1 (l.take i) (n, k) := by
   grind [List.take_add_one, Gn]
  refine ⟨l.length - (i + 1), by omega, i + 1, by omega, rfl, ?_, M⟩
  rw [e]
  (rw [if_neg (fun h => by grind [Lk.pl_iff])]; exact S.sub _ rfl)
 intro a h26 S
 refine gp [[2,1],[902,0,5]] ?_; intro a S
 refine qK S rfl (Gk x _) M ?_; intro a w5 S hK M
 refine qY S (JgI S rfl rfl) ?_
 refine gp [[0,1],[4],[901],[0,1],[2]] ?_; intro a S
 replace M := M.drp 0
 have e : J1 (l.take (i + 1)) (n, k) = if x.pl = (n, k) then max (J1 (l.take i) (n, k)) x.mode else J1 (l.take i) (n, k) := by
  grind [List.take_add_one, Gn]
 refine ⟨l.length - (i + 1), by omega, i + 1, by omega, rfl, ?_, M⟩
 rw [e]
 (rw [if_pos (Lk.pl_iff.2 ⟨h21, h26⟩)]; exact S.sub _ rfl)
def Je2 (l : List Lk) (p : Lk → Bool) (j : Int) : Prop :=
 (∃ (k : Nat) (q : Lk), j = (k : Int) ∧ l[k]? = some q ∧ p q = true ∧ ∀ (i : Nat) (q : Lk), i < k → l[i]? = some q → p q = false) ∨ (j = -1 ∧ ∀ q ∈ l, p q = false)
set_option maxHeartbeats 400000 in
theorem Z6 {f : FuncId} {fi ca : List Value} (hE : VL Tryz.prog f) (va : Option Addr) (vc : Nat) (l : List Lk) (p : Lk → Bool) (w : World) (hv : LsL 0 w.heap.size w (.slice va l.length vc) l)
 (hstep : ∀ (x : Lk) (w' : World), Below w.heap.size w w' → CT f (fi ++ ([Value.agg x.cellsL.toArray] ++ ca)).toArray w' (fun e w'' => e = .returned (.bool (p x)) ∧ Below w'.heap.size w' w'')) :
 CT 279 #[.slice va l.length vc, .func (.func f) fi.toArray ca.toArray] w (fun e w' => ∃ j, e = .returned (.int .i64 j) ∧ Below w.heap.size w w' ∧ Je2 l p j) := by
 have M := Mem.start w
 have hl := hv.2.1
 unfold maxLen at hl
 refine qI Tryz.func279 19 ?_
 refine gp [[2,1],[5,1],[903,110],[0,1],[3]] ?_; intro a S
 refine Jc (fun m a w' => ∃ (k : Nat), k ≤ l.length ∧ m = l.length - k ∧ Jk 19 a [(0, .slice va l.length vc), (1, .func (.func f) fi.toArray ca.toArray), (7, .int .i64 (l.length : Int)), (8, .int .i64 (k : Int))] ∧ Mem w w' [] ∧ ∀ (i : Nat) (q : Lk), i < k → l[i]? = some q → p q = false) (l.length) ?_ ?_
 ·skip
  exact ⟨0, Nat.zero_le _, rfl, S.sub _ rfl, M, fun i q h => absurd h o_⟩
 intro m a wl
 rintro ⟨k, hk, rfl, S, M, hpre⟩
 refine gq [[2,1],[3],[943,9]] ?_ ?_
 ·intro a h9 S
  refine gp [[8,1],[3],[930]] ?_
  obtain rfl : k = l.length := by omega
  refine ⟨-1, rfl, M.below, .inr ⟨rfl, fun q hq => ?_⟩⟩
  grind [List.getElem?_of_mem]
 intro a h9 S
 refine gp [[7,1,1],[3]] ?_; intro a S
 obtain ⟨q, hq⟩ : ∃ q, l[k]? = some q := ⟨_, List.getElem?_eq_getElem o_⟩
 refine gp [[1,1,1,1],[907,110,5]] ?_; intro a S
 refine qY S (Ja S k_ rfl rfl ((M.arg hv).at_.row (i := k) (J6 hq) rfl)) ?_; intro a S
 refine JR (xs := [.tmp 15]) (fi := fi) (ca := ca) S (hE) rfl rfl (rfl) rfl (hstep q _ M.below) ?_
 rintro _ w1 ⟨rfl, hK⟩; replace M := M.grow hK
 refine gp [[2]] ?_; intro a S
 refine Js (t := 16) S rfl ?_ ?_
 ·intro h16 S
  refine gp [[3,1,1],[8],[930]] ?_
  exact ⟨(k : Int), rfl, M.below, .inl ⟨k, q, rfl, hq, h16, hpre⟩⟩
 intro h16 S
 refine gp [[5],[901],[0,1],[2]] ?_; intro a S
 refine ⟨l.length - (k + 1), by omega, k + 1, by omega, rfl, S.sub _ rfl, M, fun i q' hi hq' => ?_⟩
 grind
theorem JeD {l : List Lk} {p : Lk → Bool} {j : Int} (h : Je2 l p j) : decide (0 ≤ j) = l.any p := by
 rw [Bool.eq_iff_iff, decide_eq_true_eq, List.any_eq_true]
 rcases h with ⟨k, q, rfl, hq, hp, -⟩ | ⟨rfl, h⟩
 ·grind
 grind
theorem KH {f : FuncId} {fi ca : List Value} (hE : VL Tryz.prog f) (va : Option Addr) (vc : Nat) (l : List Lk) (p : Lk → Bool) (w : World) (hv : LsL 0 w.heap.size w (.slice va l.length vc) l)
 (hstep : ∀ (x : Lk) (w' : World), Below w.heap.size w w' → CT f (fi ++ ([Value.agg x.cellsL.toArray] ++ ca)).toArray w' (fun e w'' => e = .returned (.bool (p x)) ∧ Below w'.heap.size w' w'')) :
 CT 325 #[.slice va l.length vc, .func (.func f) fi.toArray ca.toArray] w (fun e w' => e = .returned (.bool (l.any p)) ∧ Below w.heap.size w w') := by
 have M := Mem.start w
 refine qI Tryz.func325 9 ?_
 refine gp [[2,1],[4,1,1]] ?_; intro a S
 refine qD S rfl (Z6 hE va vc l p _ (M.argW hv) (fun x w' hw => hstep x w' (M.below.trans (hw.mono M.below.size)))) ?_
 rintro _ w1 ⟨j, rfl, hK, hj⟩; replace M := M.grow hK
 refine gp [[0,1,1],[3],[930]] ?_
 grind [JeD]
theorem DH (x y : Lk) (b : Nat) (w : World) (hN : Blk w b y.cellsL.toArray 110) :
 CQ 326 #[.agg x.cellsL.toArray, p_ b] w (.bool (decide (x.pl = y.pl))) := by
 have M := Mem.start w
 refine qI Tryz.func326 9 ?_; intro a S
 refine nxD (qW_ S M ?_); intro a w1 bD S M hB
 refine gp [[0,1],[3],[920]] ?_; intro a S
 refine qU S (fun w M => Ja (cs := [_, _, _, _, _]) S k_ rfl rfl (M.cellsAt (k := 5) 0 rfl rfl)) ?_; intro a S
 refine jM (xs := [.tmp 4]) S (Ji Tryz.func121 d_ rfl) rfl rfl rfl (ZQ fun w M => YP x _) ?_; intro a S
 refine qU S (fun w M => Ja S k_ rfl rfl (show CellsAt _ b 0 y.cellsL from Blk.cellsAt (o := 0) (k := 5) ((M.below.block b hN.lt).trans hN) rfl)) ?_; intro a S
 refine jM (xs := [.tmp 6]) S (Ji Tryz.func121 d_ rfl) rfl rfl rfl (ZQ fun w M => YP y _) ?_; intro a S
 refine qU S (fun w M => VI k_ S rfl rfl (fun w => Wp 9997 x.pl y.pl w)) ?_
 refine go [[921,1],[3],[930]] ?_; intro w4 M
 exact ⟨rfl, M.below⟩
def YS (h wl : List Lk) (x : Lk) : Bool × Int := if x.mode ≤ J1 h x.pl then (true, 0) else if wl.any (fun y => decide (y.pl = x.pl)) = true then (true, 1) else (false, 0)
set_option maxHeartbeats 400000 in
theorem ES (ha wa : Option Addr) (hc wc : Nat) (h wl : List Lk) (x : Lk) (w : World) (hv : LsL 0 w.heap.size w (.slice ha h.length hc) h) (hu : LsL 0 w.heap.size w (.slice wa wl.length wc) wl) :
 CQ 277 #[zh ha wa h.length hc wl.length wc, .agg x.cellsL.toArray] w (.tuple #[.bool (YS h wl x).1, .int .i8 (YS h wl x).2]) := by
 have M := Mem.start w
 refine qI Tryz.func277 21 ?_; intro a S
 refine nxD (qW_ S M ?_); intro a w1 bT S M hB
 refine qW_ S M ?_; intro a w2 bX S M hB
 refine gp [[0,1,1],[5],[902,1,2],[0,1],[902,0,3],[0,4,1]] ?_; intro a S
 refine qK S rfl (Ka ha wa hc _ wc h x.name x.block _ (M.argW hv)) M ?_; intro a w3 S hK M
 refine gp [[0,1],[4,1],[902,0,5]] ?_; intro a S
 refine qK S rfl (Gk x _) M ?_; intro a w4 S hK M
 refine gq [[0,1],[2],[940,16]] ?_ ?_
 ·intro a h16 S
  refine gp [[3,1,1],[4],[931]] ?_
  refine ⟨?_, M.below⟩; clear S M; unfold YS; (rw [if_pos (show x.mode ≤ J1 h x.pl from h16)])
 intro a h16 S
 refine gp [[6,2,2]] ?_; intro a S
 refine qY S (Jx (fs := []) (cs := [.tmp 3]) S rfl rfl) ?_; intro a S
 refine qK S rfl (KH (fi := []) (ca := [p_ bX]) (Ji Tryz.func326 d_ rfl) wa wc wl (fun y => decide (y.pl = x.pl)) _ (M.argW hu) (fun y w' hb => DH y x bX w' ((hb.block bX (M.blk 0 rfl).lt).trans (M.blk 0 rfl)))) M ?_; intro a w5 S hK M
 refine nxC (Js (t := 20) S rfl ?_ ?_)
 ·intro h20 S
  refine gp [[3,1,1],[4],[931]] ?_
  refine ⟨?_, M.below⟩; clear S M; unfold YS; (rw [if_neg (show ¬ x.mode ≤ J1 h x.pl from Int.not_le.2 h16), if_pos h20])
 intro h20 S
 refine gp [[5,1,1],[3],[931]] ?_
 refine ⟨?_, M.below⟩; clear S M; unfold YS; (rw [if_neg (show ¬ x.mode ≤ J1 h x.pl from Int.not_le.2 h16), if_neg (by grind)])
/-! ### records without writes -/
abbrev Rc.cL (r : Rc) : List Value := [.int .i8 r.kind, .int .i64 r.name.stamp, .int .i64 r.name.inc, .int .i64 r.name.try_, .bool r.yes, .slice none 0 0, .int .i64 r.give, .int .i64 r.take, .int .i64 r.shards, .int .i64 r.cs, .int .i64 r.ct, .int .i64 r.n]
def JkU (l : List Rc) : List Value := l.flatMap Rc.cL
/-! ### a ledger's state -/
structure Ls where
 su : Su
 cu : Su
 n : Int
 op : List Rc
abbrev stC (s : Ls) (v : Value) : List Value := [.int .i64 s.su.gen, .int .i64 s.su.tail, .int .i64 s.su.owned, .int .i64 s.su.inc, .int .i64 s.su.bound, .int .i64 s.su.m0, .int .i64 s.su.m1, .int .i64 s.su.m2, .int .i64 s.su.m3, .int .i64 s.su.m4, .int .i64 s.su.m5, .int .i64 s.su.m6, .int .i64 s.su.m7, .int .i64 s.cu.bound, .int .i64 s.cu.m0, .int .i64 s.cu.m1, .int .i64 s.cu.m2, .int .i64 s.cu.m3, .int .i64 s.cu.m4, .int .i64 s.cu.m5, .int .i64 s.cu.m6, .int .i64 s.cu.m7, .int .i64 s.su.tail, .int .i64 s.n, v]
abbrev lgC (d : Value) (s : Ls) (v : Value) : List Value := d :: stC s v
def fd (op : List Rc) (nm : Nm) : Option Nat := op.findIdx? fun r => r.name.eqb nm
def fdI (op : List Rc) (nm : Nm) : Int := match fd op nm with
 | some k => (k : Int)
 | none => -1
def Ja3 (op : List Rc) (r : Rc) : List Rc := match fd op r.name with
 | some k => op.set k r
 | none => op ++ [r]
def Ji1 (op : List Rc) (nm : Nm) : List Rc := match fd op nm with
 | some k => op.eraseIdx k
 | none => op
def Ls.commit (s : Ls) (r : Rc) : Ls := { s with op := Ja3 s.op r, cu := if 0 ≤ r.cs then s.cu.mSet r.cs.toNat r.ct else s.cu }
def Ls.end_ (s : Ls) (nm : Nm) : Ls := { s with op := Ji1 s.op nm }
def Ls.stamps (s : Ls) (n : Int) : Ls := { s with cu := { s.cu with bound := n } }
def Ls.take (s : Ls) (r : Rc) : Ls := if r.kind = 4 then s.commit r else if r.kind = 5 then s.end_ r.name else s.stamps r.n
end Go.Proofs.YtocppoflhllelaaGreat
