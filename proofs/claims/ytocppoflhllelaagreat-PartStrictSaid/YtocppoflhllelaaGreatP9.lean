/-
  What PartStrict rests on, part 9.
-/
import Derived.Maps.RangeRun
import Derived.Test.YtocppoflhllelaaGreatP4
import Derived.Test.YtocppoflhllelaaGreatP5
namespace Go.Proofs.YtocppoflhllelaaGreat
open Go.RowKit Go.Sort
section
variable {ds : List Deferred}
variable {P : Program} {ops : Array Oper} {Q : Exit → Act → World → Prop} {rest : List Oper} {n d : Nat} {a : Act} {L : List (Nat × Value)} {w w0 : World} {v : Value} {o : Oper} {H : List Ent}
section
variable {κ : Type} {enc : κ → Value}
abbrev Mes (κ : Type) := List (κ × MapEntry)
structure Good (enc : κ → Value) (l : Mes κ) (clock : Nat) : Prop where
 keys : ∀ p ∈ l, p.2.key = enc p.1
 born : (l.map (·.2.born)).Pairwise (· < ·)
 old : ∀ p ∈ l, p.2.born < clock
 nodup : (l.map (·.1)).Nodup
theorem JfO {l : Mes κ} (h : (l.map (·.1)).Nodup) {i j : Nat} {p q : κ × MapEntry} (hp : l[i]? = some p) (hq : l[j]? = some q) (e : p.1 = q.1) : i = j := by
 have h1 : (l.map (·.1))[i]? = some p.1 := by grind
 have h2 : (l.map (·.1))[j]? = some q.1 := by grind
 grind [List.getElem?_inj]
theorem ZS (c : Nat) : Good enc ([] : Mes κ) c := ⟨fun p h => (by cases h), .nil, fun p h => (by cases h), .nil⟩
abbrev J0 (b : Nat) (l : Mes κ) (c : Nat) : Ent := .own b (b + 1) fun W => W.heap[b]? = some (.map (l.map (·.2)).toArray c)
theorem Mem.mapAt {b c pos : Nat} {l : Mes κ} (M : Mem w0 w H) (h : H[pos]? = some (J0 b l c)) : w.heap[b]? = some (.map (l.map (·.2)).toArray c) := M.own pos h
theorem Mem.mapSet {b c pos c' : Nat} {l l' : Mes κ} (M : Mem w0 w H) (h : H[pos]? = some (J0 b l c)) : Mem w0 (w.putObj b (.map (l'.map (·.2)).toArray c')) (H.set pos (J0 b l' c')) := by
 have hlt := (Array.getElem?_eq_some_iff.1 (M.mapAt h)).1
 have hoth : ∀ k, k ≠ b → (w.putObj b (.map (l'.map (·.2)).toArray c')).heap[k]? = w.heap[k]? := fun k hk => World.putObj_heap_other hk
 refine M.change (e' := J0 b l' c') pos h rfl rfl (fun W' hs => ?_) (by simp [World.putObj]) rfl rfl rfl (fun k hk => hoth k (fun e => hk (by grind [Ent.lo, Ent.hi])))
 show W'.heap[b]? = _
 rw [hs b (Nat.le_refl _) (Nat.lt_succ_self _)]; exact World.putObj_heap_same hlt
variable [DecidableEq κ]
def vq (k : κ) : Mes κ → Nat → Option (Nat × Value)
 | [], _ => none
 | p :: l, i => if p.1 = k then some (i, p.2.val) else vq k l (i + 1)
structure KeyT (P : Program) (kt : TypeId) (enc : κ → Value) : Prop where
 find : ∀ (k : κ) (l : Mes κ) (w : World), (∀ p ∈ l, p.2.key = enc p.1) → (Instr.findKey kt (enc k) (l.map (·.2))).run P w = .ok (vq k l 0) w
 check : ∀ (b : Bool) (k : κ) (w : World), (Instr.checkKey b 10000 kt (enc k)).run P w = .ok () w
 bits : ∀ k : κ, Instr.sameBits 10000 (enc k) (enc k) = true
def VJ (l : Mes κ) (k : κ) : Option Value := (l.find? (·.1 = k)).map (·.2.val)
def JkY (l : Mes κ) (k : κ) : Prop := k ∈ l.map (·.1)
def zi (l : Mes κ) (k : κ) (v : Value) : Mes κ := l.map fun p => if p.1 = k then (p.1, { p.2 with val := v }) else p
def Yg (enc : κ → Value) (l : Mes κ) (clock : Nat) (k : κ) (v : Value) : Mes κ × Nat :=
 if k ∈ l.map (·.1) then (zi l k v, clock) else (l ++ [(k, { key := enc k, val := v, born := clock })], clock + 1)
theorem G4 : ∀ {l : Mes κ} {k : κ} {i : Nat}, k ∉ l.map (·.1) → vq k l i = none
 | [], k, i, h => rfl
 | p :: l, k, i, h => by
   rw [List.map_cons, List.mem_cons, not_or] at h
   rw [vq, if_neg (fun e => h.1 e.symm)]
   exact G4 h.2
theorem GZ : ∀ {l : Mes κ} {k : κ} {i : Nat}, k ∈ l.map (·.1) → ∃ (j : Nat) (p : κ × MapEntry), l[j]? = some p ∧ p.1 = k ∧ vq k l i = some (i + j, p.2.val) ∧ VJ l k = some p.2.val
 | p :: l, k, i, h => by
   by_cases hp : p.1 = k
   ·exact ⟨0, p, rfl, hp, by grind [vq], by simp [VJ, hp]⟩
   ·have h' : k ∈ l.map (·.1) := by
     grind
    obtain ⟨j, q, h1, h2, h3, h4⟩ := GZ (i := i + 1) h'
    refine ⟨j + 1, q, h1, h2, by grind [vq], ?_⟩
    grind [VJ]
theorem Xj {l : Mes κ} {k : κ} (h : k ∉ l.map (·.1)) : VJ l k = none := by
 grind [VJ]
theorem ET {l : Mes κ} {k : κ} {v : Value} (h : (l.map (·.1)).Nodup) {j : Nat} {p : κ × MapEntry} (hj : l[j]? = some p) (hk : p.1 = k) : ((l.map (·.2)).toArray.modify j fun e => { e with val := v }) = ((zi l k v).map (·.2)).toArray := by
 apply Array.ext'
 rw [Array.toList_modify]
 refine List.ext_getElem? fun i => ?_
 grind [zi, JfO]
theorem Good.put {l : Mes κ} {c : Nat} (h : Good enc l c) (k : κ) (v : Value) : Good enc (Yg enc l c k v).1 (Yg enc l c k v).2 := by
 unfold Yg
 split
 ·have e1 : (zi l k v).map (·.1) = l.map (·.1) := by
   unfold zi; rw [List.map_map]; congr 1; grind
  have e2 : (zi l k v).map (·.2.born) = l.map (·.2.born) := by
   unfold zi; rw [List.map_map]; congr 1; grind
  refine ⟨fun p hp => ?_, by rw [e2]; exact h.born, fun p hp => ?_, by rw [e1]; exact h.nodup⟩
  ·obtain ⟨q, hq, rfl⟩ := List.mem_map.1 hp
   simp only
   split
   ·exact h.keys q hq
   ·exact h.keys q hq
  ·obtain ⟨q, hq, rfl⟩ := List.mem_map.1 hp
   simp only
   split
   ·exact h.old q hq
   ·exact h.old q hq
 ·rename_i hk
  refine ⟨fun p hp => ?_, ?_, fun p hp => ?_, ?_⟩
  ·rcases List.mem_append.1 hp with hp | hp
   ·exact h.keys p hp
   grind
  ·rw [List.map_append, List.pairwise_append]
   refine ⟨h.born, by simp, fun x hx y hy => ?_⟩
   obtain ⟨q, hq, rfl⟩ := List.mem_map.1 hx
   simp at hy; subst hy
   exact h.old q hq
  ·rcases List.mem_append.1 hp with hp | hp
   ·exact Nat.lt_succ_of_lt (h.old p hp)
   grind
  ·rw [List.map_append, List.nodup_append]
   refine ⟨h.nodup, by simp, fun x hx y hy e => ?_⟩
   grind
theorem KM {b t kt e : Nat} {l : Mes κ} {c : Nat} {z : Value} {k : κ} {cm : Bool} (K : KeyT P kt enc) (G : Good enc l c) (ht : P.underlying t = some (.map kt e)) (hz : (zeroValue e).run P w = .ok z w) (hb : w.heap[b]? = some (.map (l.map (·.2)).toArray c)) :
 (Instr.lookup t (.map (some b)) (enc k) cm).run P w = .ok (if cm = true then .tuple #[(VJ l k).getD z, .bool (decide (k ∈ l.map (·.1)))] else (VJ l k).getD z) w := by
 have hf := K.find k l w G.keys
 simp only [Instr.lookup, Sem.run_bind, run_underlying ht, getObj, Sem.run, hb, Result.andThen, Sem.run_pure, K.check]
 rw [hf]
 by_cases hk : k ∈ l.map (·.1)
 ·obtain ⟨j, p, h1, h2, h3, h4⟩ := GZ (i := 0) hk
  simp_all
 ·simp only [G4 hk, Xj hk, Option.getD_none, decide_eq_false hk, Sem.run_bind, hz, Result.andThen]
  simp_all
theorem EW {b t kt e : Nat} {l : Mes κ} {c : Nat} {k : κ} (K : KeyT P kt enc) (G : Good enc l c) (ht : P.underlying t = some (.map kt e)) (hb : w.heap[b]? = some (.map (l.map (·.2)).toArray c)) :
 (Instr.mapUpdate t (.map (some b)) (enc k) v).run P w = .ok () (w.putObj b (.map ((Yg enc l c k v).1.map (·.2)).toArray (Yg enc l c k v).2)) := by
 have hf := K.find k l w G.keys
 simp only [Instr.mapUpdate, Sem.run_bind, run_underlying ht, getObj, Sem.run, hb, Result.andThen, K.check]
 rw [hf]
 by_cases hk : k ∈ l.map (·.1)
 ·obtain ⟨j, p, h1, h2, h3, h4⟩ := GZ (i := 0) hk
  have hkey : (((l.map (·.2)).toArray[0 + j]?).map (·.key)).getD (enc k) = enc k := by
   simp [h1, G.keys p (List.mem_of_getElem? h1), h2]
  simp only [h3]
  rw [hkey]
  simp only [Instr.keyThatStays, K.bits, if_true, Sem.run_bind, Sem.run_pure, Result.andThen]
  have e : ((l.map (·.2)).toArray.modify (0 + j) fun e => { key := enc k, val := v, born := e.born }) = ((zi l k v).map (·.2)).toArray := by
   rw [← ET (v := v) G.nodup h1 h2, Nat.zero_add]
   grind
  grind [setObj, Sem.run, World.putObj, Yg]
 grind [G4, setObj, Sem.run, World.putObj, Yg]
end
end
section
variable {ds : List Deferred}
variable {P : Program} {ops : Array Oper} {Q : Exit → Act → World → Prop} {md : Region.Mode} {rest : List Oper} {n d : Nat} {a : Act} {L : List (Nat × Value)} {w w0 : World} {v : Value} {o : Oper} {H : List Ent} {r : Option Nat}
variable {B : Ent} {Hs E : List Ent}
def Jji {α δ : Type} (P : Program) (gf : FuncId) (lb : List Value) (encs : α → List Value) (xs : List α) (C : δ → List α → World → Prop) : Prop :=
 ∀ (l : Nat) (w0 : World) (I X : List α → List Ent → Prop) (w : World) (Hs : List Ent), (∀ pre Hs, I pre Hs → ∃ d, ∀ W, Mem w0 W Hs → C d pre W) →
  (∀ pre x t E Hs W, xs = pre ++ x :: t → I pre Hs → Mem w0 W (E ++ Hs) → Yld P l (encs x) W fun e W' => ∃ Hs', Mem w0 W' (E ++ Hs') ∧ ((e = .returned (.bool true) ∧ I (pre ++ [x]) Hs') ∨ (e = .returned (.bool false) ∧ X (pre ++ [x]) Hs'))) →
  I [] Hs → Mem w0 w Hs →
  CallsIn (Fnc none) 0 P gf ((.func (.yield l) #[] #[] :: lb).toArray) w fun e W => (∃ v, e = .returned v) ∧ ∃ Hs', Mem w0 W Hs' ∧ (I xs Hs' ∨ ∃ pre x t, xs = pre ++ x :: t ∧ X (pre ++ [x]) Hs')
def Jdy (w0 : World) (T : List Ent) (J : List Ent → Prop) (K : Code → List Ent → Prop) : Exit → Act → World → Prop
 | .normal, _, W => ∃ Hs, Mem w0 W (Hs ++ T) ∧ J Hs
 | .ret, _, W => ∃ Hs, Mem w0 W (Hs ++ T) ∧ K .ret Hs
 | .exit id, _, W => ∃ Hs, Mem w0 W (Hs ++ T) ∧ K (.exit id) Hs
 | .goto t, _, W => ∃ Hs, Mem w0 W (Hs ++ T) ∧ K (.goto t) Hs
 | _, _, _ => False
theorem Mem.tailK (M : Mem w0 w (Hs ++ B :: E)) : Mem w0 w (B :: (Hs ++ E)) := M.perm List.perm_middle
theorem Mem.backK (M : Mem w0 w (B :: (Hs ++ E))) : Mem w0 w (Hs ++ B :: E) := M.perm List.perm_middle.symm
theorem Mem.turn (M : Mem w0 w (E ++ B :: Hs)) : Mem w0 w (Hs ++ B :: E) := (M.perm List.perm_append_comm).perm List.perm_middle.symm
theorem Mem.turnB (M : Mem w0 w (Hs ++ B :: E)) : Mem w0 w (E ++ B :: Hs) := (M.perm List.perm_append_comm).perm List.perm_middle.symm
theorem JcX {α δ : Type} {g : Operand} {ps : List Tmp} {assign body : Code} {gf : FuncId} {lb : List Value} {encs : α → List Value} {xs : List α} {C : δ → List α → World → Prop} 
 (S : SeesD ds n a L) (M : Mem w0 w H) (hg : val L g = some (.func (.func gf) #[] lb.toArray)) (hE : VL P gf) (G : Jji P gf lb encs xs C) (hps : ∀ x, (encs x).length = ps.length) (hpn : (ps.all fun p => Nat.blt p n) = true)
 (I : List α → List Ent → Prop) (X : Code → List α → List Ent → Prop) (h0 : I [] H) (hC : ∀ pre Hs, I pre Hs → ∃ d, ∀ W T, Mem w0 W (Hs ++ T) → C d pre W)
 (hround : ∀ (l : Nat) (pre : List α) (x : α) (t : List α) (Hs : List Ent) (W : World) (T : List Ent) (a' : Act), xs = pre ++ x :: t → I pre Hs → Mem w0 W (Hs ++ T) → Jk n a' (ZF ps (encs x) L) →
   assign.wpIn (Fnc (some l)) 0 P (Exit.then (fun a1 W1 => ∃ Hs1, Mem w0 W1 (Hs1 ++ T) ∧ ∀ (W2 : World) (T2 : List Ent), Mem w0 W2 (Hs1 ++ T2) → body.wpIn (Fnc (some l)) 0 P (Jdy w0 T2 (I (pre ++ [x])) (fun c => X c (pre ++ [x]))) a1 W2) (fun _ _ _ => False)) a' W)
 (hdone : ∀ (D : Nat) (W : World) (Hs : List Ent) (a' : Act), I xs Hs → Mem w0 W (jq D :: Hs) → SeesD (vI D :: ds) n a' L → Q .normal a' W)
 (hstop : ∀ (D : Nat) (W : World) (Hs : List Ent) (a' : Act) (c : Code) (pre : List α) (x : α) (t : List α), xs = pre ++ x :: t → X c (pre ++ [x]) Hs → Mem w0 W (jq D :: Hs) → SeesD (vI D :: ds) n a' L → c.wp P Q a' W) :
 (Code.rangeFunc g ps.toArray assign body).wp P Q a w := by
 refine (wpIn_wide (n := 0)).1 (wpIn_rangeFunc fun fn _ => ?_)
 obtain ⟨rec, hrec⟩ : ∃ rec : LoopState → Option Code → Loop, rec = fun st pe => { state := st, pending := pe, fn, tmps := a.tmps, params := ps.toArray, assign, body, defers := w.heap.size } := ⟨_, rfl⟩
 obtain ⟨W1, hW1⟩ : ∃ W1, (w.alloc (.deferred (some []))).alloc (.loop (rec .ready none)) = W1 := ⟨_, rfl⟩
 have M1 : Mem w0 W1 (kE w.heap.size (rec .ready none) :: H) := by
  rw [← hW1]
  refine M.push (Vd (Vd (JE _) _) _) _ (fun W' hs => ⟨?_, ?_⟩) (Nat.le_refl _) (by simp [Ent.hi])
  ·rw [hs w.heap.size (Nat.le_refl _) o_]; grind [Below.heap_alloc, World.alloc_heap_new]
  ·rw [hs (w.heap.size + 1) o_ o_]
   grind [World.alloc_heap_new, World.size_alloc]
 have hev : a.eval g = .func (.func gf) #[] lb.toArray := S.eval hg
 have fin : ∀ (R R' : Loop) (Hs : List Ent) (W : World), Mem w0 W (kE w.heap.size R :: Hs) → Mem w0 (W.putObj (w.heap.size + 1) (.loop R')) (jq w.heap.size :: Hs) := fun R R' Hs W M2 => by
  have M3 := (M2.keep (R' := R')).2
  have h := M3.own 0 rfl
  refine M3.change (e' := jq w.heap.size) 0 rfl rfl rfl (fun W' hs => ?_) rfl rfl rfl rfl fun _ _ => rfl
  show W'.heap[w.heap.size]? = _
  rw [hs w.heap.size (Nat.le_refl _) o_]; grind
 refine ⟨w.heap.size + 1, [vI w.heap.size], W1, { target := .fn (.func gf) lb.toArray, args := #[.func (.yield (w.heap.size + 1)) #[] #[]] }, W1, gf, (.func (.yield (w.heap.size + 1)) #[] #[] :: lb).toArray, W1, ?_, ?_, fun _ _ => trivial, ?_, fun h => (by cases h), ?_⟩
 ·rw [← hW1, hrec]; exact run_enterLoop_outer _ _ _ _ _
 ·simp only [resolve, hev]
  simp [go_sem]
 ·have := hE ((.func (.yield (w.heap.size + 1)) #[] #[] :: lb).toArray) W1
  grind [invoke]
 ·refine CallsIn.mono (G (w.heap.size + 1) w0 (fun pre Hs => ∃ H1, Hs = kE w.heap.size (rec .ready none) :: H1 ∧ I pre H1) (fun pre Hs => ∃ c H1, Hs = kE w.heap.size (rec .done (some c)) :: H1 ∧ X c pre H1) W1 _ ?_ ?_ ⟨H, rfl, h0⟩ M1) ?_
  ·rintro pre Hs ⟨H1, rfl, hI⟩
   obtain ⟨d, hd⟩ := hC pre H1 hI
   exact ⟨d, fun W M2 => hd W [kE w.heap.size (rec .ready none)] (Mem.turn (E := []) M2)⟩
  ·rintro pre x t E Hs W hx ⟨H1, rfl, hI⟩ MW
   have MW2 := MW.turn
   have hl := (Mem.keep (R' := rec .ready none) MW2.tailK).1
   have hy := run_yield (P := P) (args := (encs x).toArray) hl (by grind)
   rw [hrec] at hy
   refine ⟨fn, _, assign, body, hy, roundIn_of_wpIn trivial ?_⟩
   have hS : Jk n { tmps := (ps.toArray.zip (encs x).toArray).foldl (fun t (p, v) => t.setIfInBounds p v) a.tmps, defers := [] } (ZF ps (encs x) L) := by
    have h1 := yW ps (encs x) hpn S
    have e : (ps.toArray.zip (encs x).toArray).foldl (fun t (p, v) => t.setIfInBounds p v) a.tmps = (ps.zip (encs x)).foldl (fun t (q : Nat × Value) => t.setIfInBounds q.1 q.2) a.tmps := by
     grind
    rw [e]
    exact ⟨h1.size, rfl, h1.at_, h1.lt⟩
   refine wpIn_mono (hround (w.heap.size + 1) pre x t H1 W (kE w.heap.size (rec .ready none) :: E) _ hx hI MW2 hS) fun e a1 W2 h => ?_
   cases e with
   | normal =>
     obtain ⟨Hs1, M2, hb⟩ := h
     obtain ⟨hl2, M3⟩ := Mem.keep (R' := { rec .ready none with state := .busy }) M2.tailK
     refine ⟨_, run_beginRound hl2 (by grind), ?_⟩
     refine wpIn_mono (hb _ _ M3.backK) fun e a3 W3 h3 => ?_
     have ends : ∀ (jump : Option Code) (Hs3 : List Ent), Mem w0 W3 (Hs3 ++ kE w.heap.size { rec .ready none with state := .busy } :: E) → ∃ W', (Instr.endRound (w.heap.size + 1) jump).run P W3 = .ok (.bool jump.isNone) W' ∧ Mem w0 W' (E ++ kE w.heap.size (rec (if jump.isNone then .ready else .done) jump) :: Hs3) := fun jump Hs3 M4 => by
      obtain ⟨hl4, M5⟩ := Mem.keep (R' := rec (if jump.isNone then .ready else .done) jump) M4.tailK
      have he := run_endRound (P := P) jump hl4
      have e2 : ({ ({ rec .ready none with state := LoopState.busy } : Loop) with state := if jump.isNone then LoopState.ready else LoopState.done, pending := jump } : Loop) = rec (if jump.isNone then .ready else .done) jump := by grind
      rw [e2] at he
      exact ⟨_, he, M5.backK.turnB⟩
     cases e with
     | normal =>
       obtain ⟨Hs3, M4, h4⟩ := h3
       obtain ⟨W', he, M5⟩ := ends none Hs3 M4
       exact ⟨_, _, he, _, M5, .inl ⟨rfl, Hs3, rfl, h4⟩⟩
     | ret =>
       obtain ⟨Hs3, M4, h4⟩ := h3
       obtain ⟨W', he, M5⟩ := ends (some .ret) Hs3 M4
       exact ⟨_, _, he, _, M5, .inr ⟨rfl, _, Hs3, rfl, h4⟩⟩
     | exit id =>
       obtain ⟨Hs3, M4, h4⟩ := h3
       obtain ⟨W', he, M5⟩ := ends (some (.exit id)) Hs3 M4
       exact ⟨_, _, he, _, M5, .inr ⟨rfl, _, Hs3, rfl, h4⟩⟩
     | goto t =>
       obtain ⟨Hs3, M4, h4⟩ := h3
       obtain ⟨W', he, M5⟩ := ends (some (.goto t)) Hs3 M4
       exact ⟨_, _, he, _, M5, .inr ⟨rfl, _, Hs3, rfl, h4⟩⟩
     | panic ch => exact h3.elim
     | outgrown => exact h3.elim
   | exit id => exact h.elim
   | goto t => exact h.elim
   | ret => exact h.elim
   | panic ch => exact h.elim
   | outgrown => exact h.elim
  ·rintro e W2 ⟨⟨v, rfl⟩, Hs, M2, hI⟩
   rcases hI with ⟨H1, rfl, hI⟩ | ⟨pre, x, t, hx, c, H1, rfl, hX⟩
   ·obtain ⟨hl, -⟩ := Mem.keep (R' := rec .ready none) M2
    have he := run_endLoop (P := P) hl (by grind)
    have he' : (Instr.endLoop (w.heap.size + 1)).run P W2 = .ok none (W2.putObj (w.heap.size + 1) (.loop { rec .ready none with state := .exhausted })) := he.trans (by grind)
    exact ⟨none, _, he', hdone w.heap.size _ H1 _ hI (fin _ _ _ _ M2) ⟨S.size, by rw [← S.defers]; rfl, S.at_, S.lt⟩⟩
   ·obtain ⟨hl, -⟩ := Mem.keep (R' := rec .ready none) M2
    have he := run_endLoop (P := P) hl (by rw [hrec]; simp)
    have he' : (Instr.endLoop (w.heap.size + 1)).run P W2 = .ok (some c) (W2.putObj (w.heap.size + 1) (.loop { rec .done (some c) with state := .exhausted })) := he.trans (by rw [hrec])
    exact ⟨some c, _, he', (wpIn_wide (n := 0)).2 (hstop w.heap.size _ H1 _ c pre x t hx hX (fin _ _ _ _ M2) ⟨S.size, by rw [← S.defers]; rfl, S.at_, S.lt⟩)⟩
/-! ### a drawn region whose last operations come in order, in a round or where yield is called -/
theorem JhM {l : List Oper} {K : Act → World → Prop} {i : Nat} (hn : Yd l = true) (ho : ∀ a w, ¬ Q .outgrown a w) (h : wpOp P l.toArray Q i K a w) : wpOpIn (Fnc r) 0 P l.toArray Q i K a w := by
 unfold wpOp at h
 unfold wpOpIn
 split
 ·grind
 ·rename_i o he
  simp only [he] at h
  have hm : o ∈ l := by
   grind
  split
  ·rename_i hw
   simp only [hw, if_true] at h
   rcases h with h | ⟨-, a', w', h⟩
   ·exact Wg (yK hn hm) h
   ·exact absurd h (ho a' w')
  grind
theorem GF {l : List Oper} {C : World → Prop} {n g : Nat} {L : Array Bool → Act → Prop} (hn : Yd l = true) (ho : ∀ a w, ¬ Q .outgrown a w) (hL : ∀ listed a w, C w → L listed a → wpAnyIn (Fnc r) 0 P md l.toArray Q g listed a w) :
 ∀ (f : Nat) (listed : Array Bool) (a : Act) (w : World), C w → Uf P md l.toArray C n L f listed a → wpAnyIn (Fnc r) 0 P md l.toArray Q (f + g) listed a w
 | 0, listed, a, w, hw, h => by rw [Nat.zero_add]; exact hL _ _ _ hw h
 | f + 1, listed, a, w, hw, h => by
   rw [show f + 1 + g = (f + g) + 1 by omega]
   exact ⟨fun h0 => absurd h0 h.1, fun i hi => JhM hn ho (wpOp_of_qOp hw (fun a' w' hw' h' => GF hn ho hL f _ a' w' hw' h') (h.2 i hi).2)⟩
theorem Km {ops : Array Oper} : ∀ (l : List Oper) (k : Nat) (listed : Array Bool) (a : Act) (w : World), (∀ j, l[j]? = ops[k + j]?) →
 Region.seqB md ops l.length k listed = true → wpListIn (Fnc r) 0 P ops Q l a w → wpAnyIn (Fnc r) 0 P md ops Q l.length listed a w
 | [], _, _, _, _, _, hB, h => ⟨by grind [Region.seqB], h⟩
 | o :: l, k, listed, a, w, hl, hB, h => by
   have h0 : ops[k]? = some o := by simpa using (hl 0).symm
   simp only [List.length_cons, Region.seqB, Bool.and_eq_true, decide_eq_true_eq] at hB
   refine ⟨fun h1 => (by grind), fun i hi => ?_⟩
   rw [hB.1] at hi
   have hik : i = k := by grind
   subst hik
   have go : ∀ a' w', wpListIn (Fnc r) 0 P ops Q l a' w' → wpAnyIn (Fnc r) 0 P md ops Q l.length (listed.setIfInBounds i true) a' w' := fun a' w' h' =>
    Km l (i + 1) _ a' w' (fun j => by have := hl (j + 1); grind) hB.2 h'
   unfold wpOpIn
   grind [wpListIn, Oper.wpIn_mono]
theorem Jfb {id : Nat} {l : List Oper} (m : Nat) (M : Mem w0 w H) (hm : P.follows .mixedOrders = true) (hB : Region.lexTailB .any l.toArray m = true) (hnd : Yd l = true) (ho : ∀ a w, ¬ Q .outgrown a w)
 (h : wpQuiet P l.toArray (fun w' => Mem w0 w' H) (fun a' => ∀ w', Mem w0 w' H → wpListIn (Fnc r) 0 P l.toArray Q (l.drop m) a' w') (l.take m) a) : (Code.region id l.toArray true).wpIn (Fnc r) 0 P Q a w := by
 simp only [Region.lexTailB, Bool.and_eq_true, decide_eq_true_eq] at hB
 obtain ⟨⟨⟨⟨hsel, hn⟩, hs⟩, hc⟩, hlex⟩ := hB
 have hn' : m < l.length := by omega
 have htl : (l.take m).length = m := by grind
 have hdl : (l.drop m).length = l.toArray.size - m := by simp
 have inv0 : HeadInv .any l.toArray m (Array.replicate l.toArray.size false) :=
  ⟨by simp, fun j oj _ hl => (by grind [getD_replicate_false]), fun t _ ht => getD_in (by grind) (getD_replicate_false _ _)⟩
 have HH := Xh (md := .any) (g := l.toArray.size - m) hsel hs hc hn (l.take m) 0 _ a (fun j hj => by
  grind) o_ inv0 (by grind) h
 refine wpIn_region_any hm ?_
 have := GF (Q := Q) (r := r) (g := l.toArray.size - m) hnd ho (fun listed a' w' hw' hL => by
  have := Km (md := .any) (Q := Q) (r := r) (ops := l.toArray) (l.drop m) m listed a' w' (fun j => by grind) (by grind) (hL.2 w' hw')
  rwa [hdl] at this) _ _ _ _ (M.drew) HH
 rw [htl, show m + (l.toArray.size - m) = l.toArray.size by omega] at this
 exact this
end
theorem Jgi (d : Nat) (p q : Nm) (w : World) : (Op.equalIn (d + 2) 43 (.agg p.cells) (.agg q.cells)).run Tryz.prog w = .ok (decide (p = q)) w := by
 grind [Nm.eqb_iff, VG]
abbrev encNm (p : Nm) : Value := .agg p.cells
theorem Jie (b : Bool) (p : Nm) (w : World) : (Instr.checkKey b 10000 43 (encNm p)).run Tryz.prog w = .ok () w := by
 kernel_rfl
theorem vJ : KeyT Tryz.prog 43 encNm := by
 refine ⟨fun k l w h => ?_, Jie, fun p => by rw [show (10000 : Nat) = 9999 + 1 from rfl]; simp [Instr.sameBits]⟩
 have hask : ∀ (l : Mes Nm) (i : Nat), (∀ p ∈ l, p.2.key = encNm p.1) → (Instr.findAsking 43 (encNm k) (l.map (·.2)) i).run Tryz.prog w = .ok (vq k l i) w := by
  intro l
  induction l with
  | nil => intro i _; rfl
  | cons p l ih =>
    intro i h
    have e : (Op.equal 43 (encNm k) (encNm p.1)).run Tryz.prog w = .ok (decide (k = p.1)) w := Jgi 9998 k p.1 w
    rw [List.map_cons, Instr.findAsking, h p (List.mem_cons_self ..), Sem.run_bind, e]
    simp only [Result.andThen, vq]
    by_cases hk : k = p.1
    ·simp_all
    grind
 simp only [Instr.findKey, Sem.run_bind, run_underlying Tryz.underlying43, Result.andThen]
 cases l with
 | nil => rfl
 | cons p l =>
   have e : ∀ fs, Instr.findNow (.struct fs) (encNm k) ((p :: l).map (·.2)) 0 = none := fun fs => by
    rw [List.map_cons, Instr.findNow]; rfl
   grind
end Go.Proofs.YtocppoflhllelaaGreat
namespace Go.Proofs.YtocppoflhllelaaGreat
open Go.ChangeShapes Go.WideShapes Go.ChangeAt Go.RowKit Go.Joins
section
variable {H : Type} {enc : TypeId × Value → H} {W : World} {cs : List Value}
theorem JhF (h : Rdt enc Tryz.prog W 46 cs) : ∃ (m : Msg) (v : Value) (x : List Wr), cs = (m.cells v).toList ∧ Ws 0 W.heap.size W v x := by
 have hl := h.len_struct Tryz.underlying46
 rw [show Tryz.prog.cellsOf 46 = 24 by kernel_rfl] at hl
 match cs, hl with
 | [c0, c1, c2, c3, c4, c5, c6, c7, c8, c9, c10, c11, c12, c13, c14, c15, c16, c17, c18, c19, c20, c21, c22, c23], _ =>
   have k1 : Tryz.prog.cellsOf 3 = 1 := by kernel_rfl
   obtain ⟨z0, e0, -⟩ := (show Rdt enc Tryz.prog W 41 [c0] from h.field Tryz.underlying46 0 rfl (k := 1) k_).int Tryz.underlying41
   obtain ⟨z1, e1, -⟩ := (show Rdt enc Tryz.prog W 3 [c1] from h.field Tryz.underlying46 1 rfl k1).i64 Tryz.underlying3
   obtain ⟨z2, e2, -⟩ := (show Rdt enc Tryz.prog W 3 [c2] from h.field Tryz.underlying46 2 rfl k1).i64 Tryz.underlying3
   obtain ⟨z3, e3, -⟩ := (show Rdt enc Tryz.prog W 3 [c3] from h.field Tryz.underlying46 3 rfl k1).i64 Tryz.underlying3
   obtain ⟨z4, e4, -⟩ := (show Rdt enc Tryz.prog W 3 [c4] from h.field Tryz.underlying46 4 rfl k1).i64 Tryz.underlying3
   obtain ⟨n, e5⟩ := JiC (show Rdt enc Tryz.prog W 43 [c5, c6, c7] from h.field Tryz.underlying46 5 rfl (k := 3) k_)
   obtain ⟨z8, e8, -⟩ := (show Rdt enc Tryz.prog W 3 [c8] from h.field Tryz.underlying46 6 rfl k1).i64 Tryz.underlying3
   obtain ⟨z9, e9, -⟩ := (show Rdt enc Tryz.prog W 41 [c9] from h.field Tryz.underlying46 7 rfl (k := 1) k_).int Tryz.underlying41
   obtain ⟨z10, e10, -⟩ := (show Rdt enc Tryz.prog W 3 [c10] from h.field Tryz.underlying46 8 rfl k1).i64 Tryz.underlying3
   obtain ⟨vv, e11⟩ := JdD (show Rdt enc Tryz.prog W 39 [c11, c12, c13, c14, c15, c16, c17, c18] from h.field Tryz.underlying46 9 rfl (k := 8) k_)
   obtain ⟨z19, e19, -⟩ := (show Rdt enc Tryz.prog W 35 [c19] from h.field Tryz.underlying46 10 rfl (k := 1) k_).i64 Tryz.underlying35
   obtain ⟨y, e20⟩ := (show Rdt enc Tryz.prog W 4 [c20] from h.field Tryz.underlying46 11 rfl (k := 1) k_).bool Tryz.underlying4
   obtain ⟨z21, e21, -⟩ := (show Rdt enc Tryz.prog W 3 [c21] from h.field Tryz.underlying46 12 rfl k1).i64 Tryz.underlying3
   obtain ⟨z22, e22, -⟩ := (show Rdt enc Tryz.prog W 3 [c22] from h.field Tryz.underlying46 13 rfl k1).i64 Tryz.underlying3
   obtain ⟨u, x, e23, hw⟩ := JiA (show Rdt enc Tryz.prog W 44 [c23] from h.field Tryz.underlying46 14 rfl (k := 1) k_) Tryz.underlying44
   have e5' : c5 = .int .i64 n.stamp ∧ c6 = .int .i64 n.inc ∧ c7 = .int .i64 n.try_ := by grind
   obtain ⟨rfl, rfl, rfl⟩ := e5'
   cases e11
   cases e0; cases e1; cases e2; cases e3; cases e4; cases e8; cases e9; cases e10; cases e19; cases e20; cases e21; cases e22; cases e23
   exact ⟨⟨z0, z1, z2, z3, z4, n, z8, z9, z10, vv, z19, y, z21, z22⟩, c23, x, rfl, hw⟩
theorem Jkr {t : TypeId} (h : Rdt enc Tryz.prog W t cs) (ht : Tryz.prog.underlying t = some (.slice 46)) : ∃ u css ms, cs = [u] ∧ MsC css 0 W.heap.size W u ms := by
 obtain ⟨u, css, xs, e, hR, hx⟩ := h.rows (α := Msg × List Wr) (Φ := fun q cs => ∃ lv, cs = (q.1.cells lv).toList ∧ Ws 0 W.heap.size W lv q.2) (sz := 24) ht k_ o_ (fun q cs ⟨lv, e, _⟩ => by rw [e]; rfl) (fun cs h => by
  obtain ⟨m, v, x, e, hw⟩ := JhF h
  exact ⟨(m, x), v, e, hw⟩)
 exact ⟨u, css, xs, e, hR, hx⟩
end
end Go.Proofs.YtocppoflhllelaaGreat
