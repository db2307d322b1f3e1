/-
  Package disk: how a disk lies in memory; what it holds, plainly.
-/
import Derived.Test.YtafejnbfgkkjkaaPn
import Derived.Test.YtafejnbfgkkjkaaMq
import Derived.Test.YtafejnbfgkkjkaaJoin
import Derived.Test.YtafejnbfgkkjkaaCpy
import Derived.Test.YtafejnbfgkkjkaaBytes
import Derived.Test.YtafejnbfgkkjkaaRdh
namespace Go.Proofs.Ytafejnbfgkkjkaa
open Go.RowKit Go.Sort

/-- a row of bytes of one's own -/
structure RB where
  lo : Nat
  hi : Nat
  a : Option Addr
  c : Nat
  bs : List UInt8
abbrev RB.val (r : RB) : Value := .slice r.a r.bs.length r.c
def RB.ent (r : RB) : Ent := rowE r.lo r.hi 5 1 r.val r.bs.length (bcells r.bs)
/-- a sector's writes since the last flush -/
structure Sec where
  key : Int
  lo : Nat
  hi : Nat
  a : Option Addr
  c : Nat
  ws : List RB
abbrev Sec.val (s : Sec) : Value := .slice s.a s.ws.length s.c
def Sec.ent (s : Sec) : Ent := rowE s.lo s.hi 32 1 s.val s.ws.length (s.ws.map RB.val)
def Sec.ents (s : Sec) : List Ent := s.ent :: s.ws.map RB.ent
def secsE (l : List Sec) : List Ent := l.flatMap Sec.ents
/-- a disk's cells: what is durable, the map of what was written, whether it is down -/
def dcells (dur : List UInt8) (m : Nat) (down : Bool) : List Value := bcells dur ++ [.map (some m), .bool down]
abbrev eJ : Int → Value := fun z => .int .i64 z
def secOf (l : List Sec) (k : Int) : Option Sec := l.find? fun s => decide (s.key = k)
structure Dk where
  b : Nat
  m : Nat
  cl : Nat
  ml : Mes Int
  dur : List UInt8
  down : Bool
  secs : List Sec
structure Dk.Ok (D : Dk) : Prop where
  dur : D.dur.length = 2176
  good : Good eJ D.ml D.cl
  nodup : (D.secs.map Sec.key).Nodup
  tell : ∀ k, getM D.ml k = (secOf D.secs k).map Sec.val
  sec : ∀ s ∈ D.secs, (0 ≤ s.key ∧ s.key < 34) ∧ s.ws ≠ [] ∧ ∀ r ∈ s.ws, r.bs.length = 64
def Dk.ents (D : Dk) : List Ent := .blk D.b (dcells D.dur D.m D.down).toArray 50 :: mapX D.m D.ml D.cl :: secsE D.secs
/-- a sector as it is durably -/
def durAt (dur : List UInt8) (k : Nat) : List UInt8 := (dur.drop (k * 64)).take 64
theorem durAt_len {dur : List UInt8} (h : dur.length = 2176) {k : Nat} (hk : k < 34) : (durAt dur k).length = 64 := by
  unfold durAt; rw [List.length_take, List.length_drop, h]; omega
/-- what a disk holds -/
structure DS where
  dur : Nat → List UInt8
  cache : Int → List (List UInt8)
  down : Bool
def cacheOf (l : List Sec) (k : Int) : List (List UInt8) := match secOf l k with
  | some s => s.ws.map RB.bs
  | none => []
def Dk.st (D : Dk) : DS := ⟨durAt D.dur, cacheOf D.secs, D.down⟩
/-- these entries are the disk at b, which holds S -/
def DkE (b : Nat) (S : DS) (E : List Ent) : Prop := ∃ D : Dk, D.b = b ∧ D.Ok ∧ D.st = S ∧ E = D.ents

theorem dcells_len {dur : List UInt8} (h : dur.length = 2176) (m : Nat) (d : Bool) : (dcells dur m d).length = 2178 := by
  unfold dcells; rw [List.length_append, bcells_length, h]; rfl
theorem dcells_map {dur : List UInt8} (h : dur.length = 2176) (m : Nat) (d : Bool) : (dcells dur m d).toArray[2176]? = some (.map (some m)) := by
  rw [List.getElem?_toArray]; unfold dcells
  rw [List.getElem?_append_right (by rw [bcells_length]; omega), bcells_length, h]; rfl
theorem dcells_down {dur : List UInt8} (h : dur.length = 2176) (m : Nat) (d : Bool) : (dcells dur m d).toArray[2177]? = some (.bool d) := by
  rw [List.getElem?_toArray]; unfold dcells
  rw [List.getElem?_append_right (by rw [bcells_length]; omega), bcells_length, h]; rfl
theorem dcells_setDown {dur : List UInt8} (h : dur.length = 2176) (m : Nat) (d d' : Bool) : putL (dcells dur m d) 2177 [.bool d'] = dcells dur m d' := by
  have e := putL_mid (A := bcells dur ++ [.map (some m)]) (B := [Value.bool d]) (C := []) (us := [Value.bool d']) rfl
  rw [show (bcells dur ++ [Value.map (some m)]).length = 2177 by rw [List.length_append, bcells_length, h]; rfl] at e
  unfold dcells
  simp only [List.append_assoc, List.cons_append, List.nil_append] at e
  exact e
/-! maps -/
section
variable {κ : Type} [DecidableEq κ] {enc : κ → Value}
theorem get_putJ (l : Mes κ) (c : Nat) (k k' : κ) (v : Value) : getM (putM enc l c k v).1 k' = if k' = k then some v else getM l k' := by
  unfold putM
  split
  · rename_i hk
    unfold getM setM
    rw [List.find?_map]
    have e : ((fun p : κ × MapEntry => decide (p.1 = k')) ∘ fun p : κ × MapEntry => if p.1 = k then (p.1, { p.2 with val := v }) else p) = fun p => decide (p.1 = k') := by
      funext p; simp only [Function.comp]; split <;> rfl
    rw [e]
    by_cases h : k' = k
    · subst h
      rw [if_pos rfl]
      obtain ⟨p, hp, hpk⟩ := List.mem_map.1 hk
      cases hf : l.find? (fun p => decide (p.1 = k')) with
      | none =>
        rw [List.find?_eq_none] at hf
        exact absurd (by simpa using hpk) (hf p hp)
      | some q =>
        have := List.find?_some hf
        simp only [decide_eq_true_eq] at this
        simp [this]
    · rw [if_neg h]
      cases hf : l.find? (fun p => decide (p.1 = k')) with
      | none => rfl
      | some q =>
        have := List.find?_some hf
        simp only [decide_eq_true_eq] at this
        have h2 : ¬ q.1 = k := fun e => h (this.symm.trans e)
        simp [h2]
  · rename_i hk
    unfold getM
    rw [List.find?_append]
    by_cases h : k' = k
    · subst h
      rw [if_pos rfl]
      have : l.find? (fun p => decide (p.1 = k')) = none := by
        rw [List.find?_eq_none]
        intro p hp e
        simp only [decide_eq_true_eq] at e
        exact hk (by rw [← e]; exact List.mem_map_of_mem hp)
      rw [this]; simp
    · rw [if_neg h]
      have h2 : ¬ k = k' := fun e => h e.symm
      cases hf : l.find? (fun p => decide (p.1 = k')) <;> simp [h2]
end
/-! a sector of the map -/
theorem secOf_some {l : List Sec} {k : Int} {s : Sec} (h : secOf l k = some s) : ∃ P Q, l = P ++ s :: Q ∧ s.key = k := by
  have hm := List.mem_of_find?_eq_some h
  have hk := List.find?_some h
  obtain ⟨P, Q, e⟩ := List.append_of_mem hm
  exact ⟨P, Q, e, by simpa using hk⟩
theorem secOf_none {l : List Sec} {k : Int} : secOf l k = none ↔ ∀ s ∈ l, s.key ≠ k := by
  unfold secOf
  rw [List.find?_eq_none]
  simp
theorem secOf_mid {P Q : List Sec} {s : Sec} (hn : ((P ++ s :: Q).map Sec.key).Nodup) (k : Int) : secOf (P ++ s :: Q) k = if k = s.key then some s else secOf (P ++ Q) k := by
  rw [List.map_append, List.map_cons, List.nodup_append] at hn
  obtain ⟨h1, h2, h3⟩ := hn
  have hP : ∀ t ∈ P, t.key ≠ s.key := fun t ht => h3 _ (List.mem_map_of_mem ht) _ (by simp)
  by_cases e : k = s.key
  · subst e
    rw [if_pos rfl]
    unfold secOf
    rw [List.find?_append, show P.find? (fun t => decide (t.key = s.key)) = none by rw [List.find?_eq_none]; intro t ht; simpa using hP t ht]
    simp
  · rw [if_neg e]
    unfold secOf
    rw [List.find?_append, List.find?_append, List.find?_cons, show decide (s.key = k) = false by simpa using fun h => e h.symm]
theorem secsE_mid (P Q : List Sec) (s : Sec) : (secsE (P ++ s :: Q)).Perm (s.ents ++ secsE (P ++ Q)) := by
  unfold secsE
  rw [List.flatMap_append, List.flatMap_cons, List.flatMap_append, ← List.append_assoc, ← List.append_assoc]
  exact List.Perm.append_right _ List.perm_append_comm

end Go.Proofs.Ytafejnbfgkkjkaa

namespace Go.Proofs.Ytafejnbfgkkjkaa
open Go.RowKit Go.Sort
variable {w0 w : World} {H A : List Ent}

theorem keyJ : KeyT Try.prog 3 eJ := key_int Try.underlying3
set_option maxRecDepth 100000 in
theorem zero_sl (w : World) : (zeroValue 22).run Try.prog w = .ok (.slice none 0 0) w := by
  obtain ⟨i, hi, hz⟩ : ∃ i, Try.prog.info? 22 = some i ∧ i.zero = some (.slice none 0 0) := by
    refine ⟨_, rfl, ?_⟩
    kernel_rfl
  simp [zeroValue, typeInfo, hi, hz, go_sem]
theorem is_any (k : Int) (w : World) : Calls Try.prog 43 #[.int .i64 k] w fun e w' => e = .returned (.bool (decide (0 ≤ k ∧ k < 34))) ∧ Below w.heap.size w w' := by
  have M := Mem.start w
  refine calls_enter Try.func43 rfl 9 rfl rfl ?_; intro a S
  refine nxD ?_
  refine st_go [1] S rfl (by kernel_rfl) ?_; clear S a; intro a S
  refine nxA ?_
  refine st_go [1, 1, 1] S rfl (by kernel_rfl) ?_; clear S a; intro a S
  refine st_if (t := 5) S rfl ?_ ?_
  · clear S; intro h5 S
    refine st_go [1, 1, 1, 1] S rfl (by kernel_rfl) ?_; clear S a; intro a S
    refine nxC ?_
    refine wp_ret ?_
    refine end_one S rfl (res_tmp rfl) ?_
    refine ⟨ret_bool ?_, M.below⟩; clear S M; rw [Bool.eq_iff_iff]; simp only [decide_eq_true_eq]; first | omega | (simp; omega)
  clear S; intro h5 S
  refine st_go [0, 0, 1, 1] S rfl (by kernel_rfl) ?_; clear S a; intro a S
  refine nxC ?_
  refine wp_ret ?_
  refine end_one S rfl (res_tmp rfl) ?_
  refine ⟨ret_bool ?_, M.below⟩; clear S M; rw [Bool.eq_iff_iff]; simp only [decide_eq_true_eq]; first | omega | (simp; omega)
/-- a sector of the map, brought to the front -/
theorem Dk.open {D : Dk} (O : D.Ok) (k : Int) (hk : 0 ≤ k ∧ k < 34) (M : Mem w0 w (D.ents ++ A)) :
    ∃ (P Q : List Sec) (s : Sec), s.key = k ∧ (D.secs = P ++ s :: Q ∨ (D.secs = P ++ Q ∧ s.ws = [])) ∧ ((P ++ s :: Q).map Sec.key).Nodup ∧ (getM D.ml k).getD (.slice none 0 0) = s.val ∧ cacheOf D.secs k = s.ws.map RB.bs ∧ (∀ r ∈ s.ws, r.bs.length = 64) ∧
      Mem w0 w (.blk D.b (dcells D.dur D.m D.down).toArray 50 :: mapX D.m D.ml D.cl :: s.ent :: (s.ws.map RB.ent ++ secsE (P ++ Q) ++ A)) := by
  cases hs : secOf D.secs k with
  | some s =>
    obtain ⟨P, Q, e, hkey⟩ := secOf_some hs
    refine ⟨P, Q, s, hkey, .inl e, by rw [← e]; exact O.nodup, by rw [O.tell, hs]; rfl, by unfold cacheOf; rw [hs], fun r hr => (O.sec s (by rw [e]; simp)).2.2 r hr, ?_⟩
    refine M.perm ?_
    unfold Dk.ents
    rw [e]
    refine List.Perm.cons _ (List.Perm.cons _ ?_)
    have := (secsE_mid P Q s).append_right A
    unfold Sec.ents at this
    simp only [List.cons_append, List.append_assoc] at this
    simp only [List.append_assoc]
    exact this
  | none =>
    have hno := secOf_none.1 hs
    refine ⟨D.secs, [], ⟨k, w.heap.size, w.heap.size, none, 0, []⟩, rfl, .inr ⟨by simp, rfl⟩, ?_, by rw [O.tell, hs]; rfl, by unfold cacheOf; rw [hs]; rfl, fun r hr => (by cases hr), ?_⟩
    · rw [List.map_append, List.nodup_append]
      refine ⟨O.nodup, by simp, fun x hx y hy e => ?_⟩
      simp at hy; subst hy; subst e
      obtain ⟨t, ht, e⟩ := List.mem_map.1 hx
      exact hno t ht e
    · have M1 := M.rowNil 32 1
      refine M1.perm ?_
      simp only [List.append_nil, List.map_nil, List.nil_append]
      unfold Dk.ents
      exact (List.Perm.swap _ _ _).trans (List.Perm.cons _ (List.Perm.swap _ _ _))
/-- a write more of a sector -/
def DS.write (S : DS) (k : Int) (bs : List UInt8) : DS := { S with cache := fun j => if j = k then S.cache k ++ [bs] else S.cache j }
def Dk.put (D : Dk) (k : Int) (P Q : List Sec) (s : Sec) : Dk := ⟨D.b, D.m, (putM eJ D.ml D.cl k s.val).2, (putM eJ D.ml D.cl k s.val).1, D.dur, D.down, P ++ s :: Q⟩
theorem Dk.close {D : Dk} (O : D.Ok) {P Q : List Sec} {s s' : Sec} {r : RB} {k : Int} (hk : 0 ≤ k ∧ k < 34) (hkey : s.key = k) (hsec : D.secs = P ++ s :: Q ∨ (D.secs = P ++ Q ∧ s.ws = [])) (hnd : ((P ++ s :: Q).map Sec.key).Nodup) (hca : cacheOf D.secs k = s.ws.map RB.bs) (h64 : ∀ r ∈ s.ws, r.bs.length = 64)
    (hs'k : s'.key = k) (hs' : s'.ws = s.ws ++ [r]) (hr : r.bs.length = 64)
    (M : Mem w0 w (.blk D.b (dcells D.dur D.m D.down).toArray 50 :: mapX D.m (putM eJ D.ml D.cl k s'.val).1 (putM eJ D.ml D.cl k s'.val).2 :: s'.ent :: r.ent :: (s.ws.map RB.ent ++ secsE (P ++ Q) ++ A))) :
    ∃ E, DkE D.b (D.st.write k r.bs) E ∧ Mem w0 w (E ++ A) := by
  have hnd' : ((P ++ s' :: Q).map Sec.key).Nodup := by
    rw [List.map_append, List.map_cons] at hnd ⊢
    rw [hs'k, ← hkey]; exact hnd
  have hold : ∀ j, j ≠ k → secOf D.secs j = secOf (P ++ Q) j := fun j hj => by
    rcases hsec with e | ⟨e, -⟩
    · rw [e, secOf_mid hnd, if_neg (by rw [hkey]; exact hj)]
    · rw [e]
  refine ⟨(D.put k P Q s').ents, ⟨D.put k P Q s', rfl, ⟨O.dur, O.good.put _ _, hnd', fun j => ?_, fun t ht => ?_⟩, ?_, rfl⟩, ?_⟩
  · show getM (putM eJ D.ml D.cl k s'.val).1 j = (secOf (P ++ s' :: Q) j).map Sec.val
    rw [get_putJ, secOf_mid hnd']
    by_cases e : j = k
    · subst e; rw [if_pos rfl, if_pos hs'k.symm]; rfl
    · rw [if_neg e, if_neg (by rw [hs'k]; exact e), O.tell, hold j e]
  · replace ht : t ∈ P ++ s' :: Q := ht
    rcases List.mem_append.1 ht with h | h
    · exact O.sec t (by rcases hsec with e | ⟨e, -⟩ <;> rw [e] <;> simp [h])
    · rcases List.mem_cons.1 h with rfl | h
      · refine ⟨by rw [hs'k]; exact hk, by rw [hs']; simp, fun q hq => ?_⟩
        rw [hs'] at hq
        rcases List.mem_append.1 hq with hq | hq
        · exact h64 q hq
        · rw [List.mem_singleton.1 hq]; exact hr
      · exact O.sec t (by rcases hsec with e | ⟨e, -⟩ <;> rw [e] <;> simp [h])
  · unfold Dk.st DS.write Dk.put
    simp only
    congr 1
    funext j
    unfold cacheOf at hca ⊢
    rw [secOf_mid hnd']
    by_cases e : j = k
    · subst e
      rw [if_pos hs'k.symm, if_pos rfl, hca]
      simp [hs']
    · rw [if_neg (by rw [hs'k]; exact e), if_neg e, ← hold j e]
  · refine M.perm ?_
    unfold Dk.ents Dk.put
    refine List.Perm.cons _ (List.Perm.cons _ ?_)
    have h1 := ((secsE_mid P Q s').append_right A).symm
    refine List.Perm.trans ?_ h1
    unfold Sec.ents
    rw [hs', List.map_append, List.map_cons, List.map_nil]
    simp only [List.cons_append, List.append_assoc, List.nil_append]
    exact List.Perm.cons _ List.perm_middle.symm

end Go.Proofs.Ytafejnbfgkkjkaa

namespace Go.Proofs.Ytafejnbfgkkjkaa
open Go.RowKit Go.Sort

def pad64 (bs : List UInt8) : List UInt8 := bs ++ List.replicate (64 - bs.length) 0
theorem pad64_len {bs : List UInt8} (h : bs.length ≤ 64) : (pad64 bs).length = 64 := by unfold pad64; rw [List.length_append, List.length_replicate]; omega
theorem pad64_eq {bs : List UInt8} (h : bs.length = 64) : pad64 bs = bs := by unfold pad64; rw [h]; simp
theorem pad64_cells (bs : List UInt8) : (List.replicate 64 (Value.int .u8 0)).take 0 ++ bcells bs ++ (List.replicate 64 (Value.int .u8 0)).drop (0 + bs.length) = bcells (pad64 bs) := by
  rw [List.take_zero, List.nil_append, Nat.zero_add, List.drop_replicate, pad64, bcells_append]
  congr 1
  simp [bcells]
theorem made64 : madeL [Value.int .u8 0] 64 = List.replicate 64 (Value.int .u8 0) := by kernel_rfl
set_option maxHeartbeats 1000000 in
theorem write_any {wc w : World} {A E : List Ent} {b : Nat} {S0 : DS} {k : Int} {v : Value} {bs : List UInt8} (hE : DkE b S0 E) (M : Mem wc w (A ++ E)) (hv : RdH wc A v bs) (hup : S0.down = false) (hk : 0 ≤ k ∧ k < 34) (hb : bs.length ≤ 64) (hw : (S0.cache k).length ≤ 1000000) :
    Calls Try.prog 37 #[.pointer (some ⟨b, 0, none⟩), .int .i64 k, v] w fun e w' => e = .returned (.int .i64 0) ∧ ∃ E', DkE b (S0.write k (pad64 bs)) E' ∧ Mem wc w' (A ++ E') := by
  obtain ⟨D, rfl, O, rfl, rfl⟩ := hE
  have hA : ∀ W, Mem wc W (D.ents ++ A) → Mem wc W A := fun W M => M.sub (List.sublist_append_right _ _)
  replace M := M.perm List.perm_append_comm
  have hM0 := M
  replace M : Mem wc w (.blk D.b (dcells D.dur D.m D.down).toArray 50 :: mapX D.m D.ml D.cl :: (secsE D.secs ++ A)) := M
  have hd : D.down = false := hup
  have hpl := pad64_len hb
  obtain ⟨va, vc, rfl, hvc, -⟩ := (hv _ (hA _ hM0)).form
  refine calls_enter Try.func37 rfl 49 rfl rfl ?_; intro a S
  refine wp_seq ?_
  skip
  refine wp_region_lit ?_
  refine st_go [1] S rfl (by kernel_rfl) ?_; clear S a; intro a S
  refine nxC ?_
  refine wp_seq ?_
  refine nxD ?_
  refine st_go [1] S rfl (by kernel_rfl) ?_; clear S a; intro a S
  refine st_y S rfl rfl rfl (y_eqlPS (by kernel_rfl) S rfl) ?_; clear S a; intro a S
  refine nxC ?_
  refine st_condF S rfl ?_
  refine wp_skip ?_
  refine then_normal ?_
  refine wp_seq ?_
  refine nxD ?_
  refine st_go [1, 1, 2178] S rfl (by kernel_rfl) ?_; clear S a; intro a S
  refine st_y S rfl rfl rfl (y_load S (by kernel_rfl) rfl (M.cell 0 rfl ((dcells_down O.dur _ _).trans (by rw [hd])))) ?_; clear S a; intro a S
  refine nxC ?_
  refine st_if (t := 13) S rfl ?_ ?_
  · clear S; intro h13 S
    cases h13
  clear S; intro h13 S
  refine st_condF S rfl ?_
  refine wp_skip ?_
  refine then_normal ?_
  refine wp_seq ?_
  refine nxD ?_
  refine st_go [1] S rfl (by kernel_rfl) ?_; clear S a; intro a S
  refine st_call (xs := [(Operand.tmp 14)]) S (enters_of Try.func43 (by decide) rfl) rfl rfl rfl (is_any k _) ?_
  rintro _ w1 ⟨rfl, hK⟩; refine ⟨_, rfl, ?_⟩; clear S a; intro a S; replace M := M.grow hK
  refine st_go [1, 1] S rfl (by kernel_rfl) ?_; clear S a; intro a S
  refine st_if (t := 17) S rfl ?_ ?_
  · clear S; intro h17 S
    exfalso; simp at h17; omega
  clear S; intro h17 S
  refine st_go [1] S rfl (by kernel_rfl) ?_; clear S a; intro a S
  refine st_y S rfl rfl rfl (y_lenS (E := 5) S rfl (by kernel_rfl)) ?_; clear S a; intro a S
  refine st_go [1, 1] S rfl (by kernel_rfl) ?_; clear S a; intro a S
  refine nxC ?_
  refine st_if (t := 21) S rfl ?_ ?_
  · clear S; intro h21 S
    exfalso; omega
  clear S; intro h21 S
  refine st_condF S rfl ?_
  refine wp_skip ?_
  refine then_normal ?_
  refine wp_seq ?_
  refine nxD ?_
  refine st_go [1, 1, 2177] S rfl (by kernel_rfl) ?_; clear S a; intro a S
  refine st_y S rfl rfl rfl (y_load S (by kernel_rfl) rfl (M.cell 0 rfl (dcells_map O.dur _ _))) ?_; clear S a; intro a S
  refine st_y S rfl rfl rfl (y_eqlMS (by kernel_rfl) S rfl) ?_; clear S a; intro a S
  replace S := S.sub [(0, _), (1, _), (2, _), (6, _), (9, _), (13, _), (21, _), (26, _)] rfl
  refine nxC ?_
  refine st_condF S rfl ?_
  refine wp_skip ?_
  refine nxE ?_
  refine st_make (e := 5) (sz := 1) (by_ := 1) (zc := [.int .u8 0]) S M rfl rfl (by kernel_rfl) rfl rfl (by omega) (by omega) (by omega) (by omega) ?_; clear S M a; intro a w2 bSE S M hB
  try simp only [Int.toNat_natCast, Int.reduceToNat, Nat.reduceMul] at S M
  refine st_go [1] S rfl (by kernel_rfl) ?_; clear S a; intro a S
  refine nxA ?_
  refine st_go [1, 1] S rfl (by kernel_rfl) ?_; clear S a; intro a S
  refine st_copy (e := 5) (us := bcells bs) S M 0 rfl rfl (by kernel_rfl) rfl rfl rfl (hv _ (M.sub (.cons _ (.cons _ (.cons _ (List.sublist_append_right _ _)))))) (List.take_of_length_le (by simp [bcells]; omega)) (allOne_bcells _) (by rw [madeL_length, bcells_length]; show 0 + bs.length ≤ 64; omega) ?_; clear S M a; intro a w3 S M
  simp only [List.set_cons_zero, List.set_cons_succ] at M
  refine nxC ?_
  refine wp_seq ?_
  have M3 := M
  rw [bcells_length] at M3
  replace M : Mem wc w3 (.blk bSE (bcells (pad64 bs)).toArray 5 :: .blk D.b (dcells D.dur D.m D.down).toArray 50 :: mapX D.m D.ml D.cl :: (secsE D.secs ++ A)) := by
    rw [← pad64_cells, ← made64]; exact M3
  clear M3
  obtain ⟨r, hr⟩ : ∃ r : RB, r = ⟨bSE, bSE + 1, some ⟨bSE, 0, none⟩, 64, pad64 bs⟩ := ⟨_, rfl⟩
  have hrv : r.val = .slice (some ⟨bSE, 0, none⟩) 64 64 := by rw [hr]; unfold RB.val; simp only [hpl]
  have hrb : r.bs = pad64 bs := by rw [hr]
  have M4 := M.toRow (sz := 1) (m := (pad64 bs).length) (cap := 64) (xs := bcells (pad64 bs)) 0 rfl (by rw [bcells_length, Nat.mul_one]) (by omega) (by decide) (by rw [List.size_toArray, bcells_length, hpl]) (by rw [List.toList_toArray, Nat.mul_one]; exact List.take_of_length_le (by rw [bcells_length]; omega))
  replace M : Mem wc w3 (r.ent :: (D.ents ++ A)) := by rw [hr]; exact M4
  clear M4
  obtain ⟨P, Q, s, hkey, hsec, hnd, hval, hca, h64, M5⟩ := Dk.open O k hk (A := r.ent :: A) (M.perm List.perm_middle.symm)
  clear M; have M := M5; clear M5
  have hwl : s.ws.length ≤ 1000000 := by
    have e : (cacheOf D.secs k).length = s.ws.length := by rw [hca, List.length_map]
    rw [← e]; exact hw
  refine wp_regionKC (C := fun W => Blk W D.b (dcells D.dur D.m D.down).toArray 50) [13, 14] #[false, false, false, false, false, false, false, false, false, false, false, false, false, false, false] rfl M (by kernel_rfl) ?_; clear M; intro w4 M; have hC := M.blk 0 rfl
  refine kc_readC (listed' := #[true, false, false, false, false, false, false, false, false, false, false, false, false, false, false]) 0 S rfl rfl rfl rfl (by kernel_rfl) rfl (fun _ d _ _ _ h => by cases d <;> exact h) hC (fun w _ => y_move S rfl) ?_; clear S a; intro a S
  refine kc_readC (listed' := #[true, true, false, false, false, false, false, false, false, false, false, false, false, false, false]) 1 S rfl rfl rfl rfl (by kernel_rfl) rfl (fun _ d _ _ _ h => by cases d <;> exact h) hC (fun w _ => y_nilCheck S rfl) ?_; clear S a; intro a S
  refine kc_readC (listed' := #[true, true, true, false, false, false, false, false, false, false, false, false, false, false, false]) 2 S rfl rfl rfl rfl (by kernel_rfl) rfl (fun _ d _ _ _ h => by cases d <;> exact h) hC (fun w _ => y_fieldAddr (k := 2176) S (by kernel_rfl) rfl) ?_; clear S a; intro a S
  refine kc_readC (listed' := #[true, true, true, true, false, false, false, false, false, false, false, false, false, false, false]) 3 S rfl rfl rfl rfl (by kernel_rfl) rfl (fun _ d _ _ _ h => by cases d <;> exact h) hC (fun w hC => y_load S (by kernel_rfl) rfl ((hC.cells 2176).trans (dcells_map O.dur _ _))) ?_; clear S a; intro a S
  refine kc_readC (listed' := #[true, true, true, true, true, false, false, false, false, false, false, false, false, false, false]) 4 S rfl rfl rfl rfl (by kernel_rfl) rfl (fun _ d _ _ _ h => by cases d <;> exact h) hC (fun w _ => y_move S rfl) ?_; clear S a; intro a S
  refine kc_readC (listed' := #[true, true, true, true, true, true, false, false, false, false, false, false, false, false, false]) 5 S rfl rfl rfl rfl (by kernel_rfl) rfl (fun _ d _ _ _ h => by cases d <;> exact h) hC (fun w _ => y_move S rfl) ?_; clear S a; intro a S
  refine kc_readC (listed' := #[true, true, true, true, true, true, true, false, false, false, false, false, false, false, false]) 6 S rfl rfl rfl rfl (by kernel_rfl) rfl (fun _ d _ _ _ h => by cases d <;> exact h) hC (fun w _ => y_nilCheck S rfl) ?_; clear S a; intro a S
  refine kc_readC (listed' := #[true, true, true, true, true, true, true, true, false, false, false, false, false, false, false]) 7 S rfl rfl rfl rfl (by kernel_rfl) rfl (fun _ d _ _ _ h => by cases d <;> exact h) hC (fun w _ => y_fieldAddr (k := 2176) S (by kernel_rfl) rfl) ?_; clear S a; intro a S
  refine kc_readC (listed' := #[true, true, true, true, true, true, true, true, true, false, false, false, false, false, false]) 8 S rfl rfl rfl rfl (by kernel_rfl) rfl (fun _ d _ _ _ h => by cases d <;> exact h) hC (fun w hC => y_load S (by kernel_rfl) rfl ((hC.cells 2176).trans (dcells_map O.dur _ _))) ?_; clear S a; intro a S
  refine kc_readC (listed' := #[true, true, true, true, true, true, true, true, true, true, false, false, false, false, false]) 9 S rfl rfl rfl rfl (by kernel_rfl) rfl (fun _ d _ _ _ h => by cases d <;> exact h) hC (fun w _ => y_move S rfl) ?_; clear S a; intro a S
  refine kc_read (listed' := #[true, true, true, true, true, true, true, true, true, true, true, false, false, false, false]) 10 S rfl rfl rfl rfl (by kernel_rfl) rfl (fun _ d _ _ _ h => by cases d <;> exact h) hC (fun w hW => have M := M.grow hW; y_lookupM (pos := 1) S M (keyJ) (O.good) Try.underlying46 (zero_sl) rfl rfl rfl) ?_; clear S a; intro a S
  simp only [Bool.false_eq_true, if_false, hval] at S
  refine kc_readC (listed' := #[true, true, true, true, true, true, true, true, true, true, true, true, false, false, false]) 11 S rfl rfl rfl rfl (by kernel_rfl) rfl (fun _ d _ _ _ h => by cases d <;> exact h) hC (fun w _ => y_move S rfl) ?_; clear S a; intro a S
  refine kc_one (listed' := #[true, true, true, true, true, true, true, true, true, true, true, true, true, false, false]) 12 rfl (by kernel_rfl) rfl ?_
  refine st_lit (ps := [(0, (Operand.tmp 46))]) (e := 32) (sz := 1) (zl := [.slice none 0 0]) (cs := [_]) S M rfl rfl (by kernel_rfl) rfl (rfl) ?_; clear S M a; intro a w5 bZ S M hB
  replace hC := M.blk 1 rfl
  refine wpList_nil ?_; refine then_normal ?_; refine ⟨fun _ => hB, hC, ?_⟩
  refine kc_one (listed' := #[true, true, true, true, true, true, true, true, true, true, true, true, true, true, false]) 13 rfl (by kernel_rfl) rfl ?_
  refine st_append (e := 32) (sz := 1) (by_ := 24) (zc := [.slice none 0 0]) S M 3 rfl rfl (by kernel_rfl) rfl (by decide) rfl rfl rfl (show Rd _ _ _ 1 _ 1 [Value.slice (some ⟨bSE, 0, none⟩) 64 64] from M.sliceAt 0 rfl (M.cellsAt (k := 1) 0 rfl rfl) rfl (Nat.le_refl _) (by unfold maxLen; omega)) (rfl) (by omega) (by unfold maxLen; omega) ?_; clear S M a; intro a w6 vA loA hiA S M
  replace hC := M.blk 2 rfl
  refine wpList_nil ?_; refine then_normal ?_; refine ⟨fun h => absurd h (by decide), hC, ?_⟩
  refine kc_one (listed' := #[true, true, true, true, true, true, true, true, true, true, true, true, true, true, true]) 14 rfl (by kernel_rfl) rfl ?_
  obtain ⟨aA, cA, rfl, -, -⟩ := (M.readAll 0 rfl (by unfold maxLen; omega)).form
  refine st_updateM (pos := 3) S M (keyJ) (O.good) Try.underlying46 rfl rfl rfl rfl rfl ?_; clear M; intro w7 M
  simp only [List.set_cons_zero, List.set_cons_succ] at M
  replace hC := M.blk 2 rfl
  refine wpList_nil ?_; refine then_normal ?_; refine ⟨fun h => absurd h (by decide), hC, ?_⟩
  refine kc_end (by kernel_rfl) ?_
  replace S := S.sub [(0, _), (1, _), (2, _), (6, _), (9, _), (13, _), (21, _), (26, _), (7, _)] rfl
  refine nxE ?_
  refine st_go [1] S rfl (by kernel_rfl) ?_; clear S a; intro a S
  refine nxC ?_
  refine wp_ret ?_
  refine end_one S rfl (res_tmp rfl) ?_
  refine ⟨rfl, ?_⟩
  replace M := M.front 3 rfl
  simp only [List.eraseIdx_cons_succ, List.eraseIdx_cons_zero] at M
  replace M := M.front 3 rfl
  simp only [List.eraseIdx_cons_succ, List.eraseIdx_cons_zero] at M
  replace M := M.drop 3
  simp only [List.eraseIdx_cons_succ, List.eraseIdx_cons_zero] at M
  obtain ⟨s', hs'⟩ : ∃ s' : Sec, s' = ⟨k, loA, hiA, aA, cA, s.ws ++ [r]⟩ := ⟨_, rfl⟩
  have hsl : (s.ws ++ [r]).length = s.ws.length + 1 := by simp
  have hsv : s'.val = .slice aA (s.ws.length + 1) cA := by rw [hs']; unfold Sec.val; rw [hsl]
  have := Dk.close O (s' := s') (r := r) hk hkey hsec hnd hca h64 (by rw [hs']) (by rw [hs']) (by rw [hrb]; exact hpl) (A := A) (w0 := wc) (w := w7)
  rw [hrb] at this
  have hse : s'.ent = rowE loA hiA 32 1 (.slice aA (s.ws.length + 1) cA) (s.ws.length + 1) (s.ws.map RB.val ++ [.slice (some ⟨bSE, 0, none⟩) 64 64]) := by
    rw [hs']; unfold Sec.ent Sec.val; simp only [hsl, List.map_append, List.map_cons, List.map_nil, hrv]
  rw [hsv, hse] at this
  obtain ⟨E', h1, h2⟩ := this (M.perm (List.Perm.cons _ (List.Perm.cons _ (List.Perm.cons _ List.perm_middle))))
  exact ⟨E', h1, h2.perm List.perm_append_comm⟩

end Go.Proofs.Ytafejnbfgkkjkaa

namespace Go.Proofs.Ytafejnbfgkkjkaa
open Go.RowKit Go.Sort

theorem cloneB_any (v : Value) (bs : List UInt8) (w : World) (hv : Bs 0 w.heap.size w v bs) (hl : bs.length ≤ 140737488351232) : Calls Try.prog 62 #[v] w fun e w' => ∃ v', e = .returned v' ∧ Fresh w w' 5 1 v' bs.length (bcells bs) := by
  have M := Mem.start w
  refine calls_enter Try.func62 rfl 8 rfl rfl ?_; intro a S
  refine nxD ?_
  refine st_go [1] S rfl (by kernel_rfl) ?_; clear S a; intro a S
  refine nxC ?_
  refine wp_seq ?_
  refine nxD ?_
  refine st_go [1] S rfl (by kernel_rfl) ?_; clear S a; intro a S
  refine st_y S rfl rfl rfl (y_eqlNil (e := 5) S rfl (M.arg hv) (by kernel_rfl)) ?_; clear S a; intro a S
  refine nxC ?_
  refine st_split (t := 4) S rfl ?_ ?_
  · clear S; intro h4 S
    refine st_condT S rfl ?_
    refine nxD ?_
    refine st_go [1] S rfl (by kernel_rfl) ?_; clear S a; intro a S
    refine nxC ?_
    refine wp_ret ?_
    refine then_ret ?_
    refine end_one S rfl (res_tmp rfl) ?_
    obtain ⟨rfl, h0, h1⟩ := hv.nilV h4
    exact ⟨_, rfl, by rw [h1, h0]; exact M.freshNil _ _⟩
  clear S; intro h4 S
  refine st_condF S rfl ?_
  refine wp_skip ?_
  refine nxE ?_
  refine st_lit0 (e := 5) (sz := 1) (by_ := 1) (zc := [.int .u8 0]) S M rfl rfl (by kernel_rfl) ?_; clear S M a; intro a w1 b1 S M hB
  refine st_go [1] S rfl (by kernel_rfl) ?_; clear S a; intro a S
  replace M := M.toRow (sz := 1) (m := 0) (cap := 0) (xs := []) 0 rfl rfl (Nat.le_refl _) (Nat.zero_le _) rfl rfl
  refine st_append (e := 5) (sz := 1) (by_ := 1) (zc := [.int .u8 0]) S M 0 rfl rfl (by kernel_rfl) rfl (by decide) rfl rfl rfl (M.arg hv) (allOne_bcells _) (by omega) (by unfold maxLen; omega) ?_; clear S M a; intro a w2 vA loA hiA S M
  refine st_go [1] S rfl (by kernel_rfl) ?_; clear S a; intro a S
  refine nxC ?_
  refine wp_ret ?_
  refine end_one S rfl (res_tmp rfl) ?_
  exact ⟨_, rfl, by have := M.fresh 0 rfl; rwa [Nat.zero_add, List.nil_append] at this⟩
theorem dcells_at {dur : List UInt8} (h : dur.length = 2176) {m : Nat} {d : Bool} {k : Nat} (hk : k < 34) {W : World} {b : Nat} {T : TypeId} (B : Blk W b (dcells dur m d).toArray T) : CellsAt W b (k * 64) (bcells (durAt dur k)) := by
  intro j hj
  rw [bcells_length, durAt_len h hk] at hj
  rw [B.cells]
  unfold dcells durAt
  rw [List.getElem?_toArray, List.getElem?_append_left (by rw [bcells_length]; omega), ← bcells_cut, List.getElem?_take_of_lt hj, List.getElem?_drop]
/-- what a sector reads as -/
def DS.get (S : DS) (k : Nat) : List UInt8 := match (S.cache (k : Int)).getLast? with
  | some b => b
  | none => S.dur k
theorem Mem.readB {w0 w : World} {H : List Ent} (M : Mem w0 w H) {r : RB} (hr : r.ent ∈ H) (hl : r.bs.length ≤ 1000000) : Bs 0 w.heap.size w r.val r.bs := by
  obtain ⟨p, hp⟩ := List.getElem?_of_mem hr
  exact M.readAll p hp (by unfold maxLen; omega)
set_option maxHeartbeats 1000000 in
theorem dread_any {wc w : World} {A E : List Ent} {b : Nat} {S0 : DS} {k : Nat} (hE : DkE b S0 E) (M : Mem wc w (A ++ E)) (hup : S0.down = false) (hk : k < 34) (hw : (S0.cache (k : Int)).length ≤ 1000000) :
    Calls Try.prog 54 #[.pointer (some ⟨b, 0, none⟩), .int .i64 (k : Int)] w fun e w' => ∃ v', e = .returned (.tuple #[v', .int .i64 0]) ∧ Fresh w w' 5 1 v' (S0.get k).length (bcells (S0.get k)) ∧ (S0.get k).length = 64 := by
  obtain ⟨D, rfl, O, rfl, rfl⟩ := hE
  obtain ⟨P, Q, s, hkey, hsec, hnd, hval, hca, h64, M1⟩ := Dk.open O (k : Int) (by omega) (M.perm List.perm_append_comm)
  clear M; have M := M1; clear M1
  have hd : D.down = false := hup
  have hwl : s.ws.length ≤ 1000000 := by
    have e : (cacheOf D.secs (k : Int)).length = s.ws.length := by rw [hca, List.length_map]
    rw [← e]; exact hw
  have hget : D.st.get k = match s.ws.getLast? with | some r => r.bs | none => durAt D.dur k := by
    unfold DS.get Dk.st
    simp only [hca, List.getLast?_map]
    cases s.ws.getLast? <;> rfl
  have hM0 := M
  refine calls_enter Try.func54 rfl 39 rfl rfl ?_; intro a S
  refine wp_seq ?_
  skip
  refine wp_region_lit ?_
  refine st_go [1, 1] S rfl (by kernel_rfl) ?_; clear S a; intro a S
  refine nxC ?_
  refine wp_seq ?_
  refine nxD ?_
  refine st_go [1] S rfl (by kernel_rfl) ?_; clear S a; intro a S
  refine st_y S rfl rfl rfl (y_eqlPS (by kernel_rfl) S rfl) ?_; clear S a; intro a S
  refine nxC ?_
  refine st_condF S rfl ?_
  refine wp_skip ?_
  refine then_normal ?_
  refine wp_seq ?_
  refine nxD ?_
  refine st_go [1, 1, 2178] S rfl (by kernel_rfl) ?_; clear S a; intro a S
  refine st_y S rfl rfl rfl (y_load S (by kernel_rfl) rfl (M.cell 0 rfl ((dcells_down O.dur _ _).trans (by rw [hd])))) ?_; clear S a; intro a S
  refine nxC ?_
  refine st_if (t := 12) S rfl ?_ ?_
  · clear S; intro h12 S
    cases h12
  clear S; intro h12 S
  refine st_condF S rfl ?_
  refine wp_skip ?_
  refine then_normal ?_
  refine wp_seq ?_
  refine nxD ?_
  refine st_go [1] S rfl (by kernel_rfl) ?_; clear S a; intro a S
  refine st_call (xs := [(Operand.tmp 13)]) S (enters_of Try.func43 (by decide) rfl) rfl rfl rfl (is_any (k : Int) _) ?_
  rintro _ w1 ⟨rfl, hK⟩; refine ⟨_, rfl, ?_⟩; clear S a; intro a S; replace M := M.grow hK
  refine st_go [1] S rfl (by kernel_rfl) ?_; clear S a; intro a S
  refine nxC ?_
  refine st_if (t := 15) S rfl ?_ ?_
  · clear S; intro h15 S
    exfalso; simp at h15; omega
  clear S; intro h15 S
  refine st_condF S rfl ?_
  refine wp_skip ?_
  refine then_normal ?_
  refine wp_seq ?_
  refine nxD ?_
  refine st_go [1, 1, 2177] S rfl (by kernel_rfl) ?_; clear S a; intro a S
  refine st_y S rfl rfl rfl (y_load S (by kernel_rfl) rfl (M.cell 0 rfl (dcells_map O.dur _ _))) ?_; clear S a; intro a S
  refine st_go [1] S rfl (by kernel_rfl) ?_; clear S a; intro a S
  refine st_y S rfl rfl rfl (y_lookupM (pos := 1) S M (keyJ) (O.good) Try.underlying46 (zero_sl) rfl rfl rfl) ?_; clear S a; intro a S
  simp only [Bool.false_eq_true, if_false, hval] at S
  refine st_y S rfl rfl rfl (y_assign S rfl) ?_; clear S a; intro a S
  refine nxA ?_
  refine st_go [1] S rfl (by kernel_rfl) ?_; clear S a; intro a S
  refine st_y S rfl rfl rfl (y_lenS (E := 32) S rfl (by kernel_rfl)) ?_; clear S a; intro a S
  refine st_go [1] S rfl (by kernel_rfl) ?_; clear S a; intro a S
  replace S := S.sub [(0, _), (1, _), (4, _), (5, _), (8, _), (12, _), (15, _), (6, _), (24, _)] rfl
  refine nxC ?_
  refine st_fi (t := 24) S rfl ?_ ?_
  · clear S; intro h24 S
    refine st_condF S rfl ?_
    refine wp_skip ?_
    refine then_normal ?_
    refine wp_seq ?_
    have hws : s.ws = [] := List.eq_nil_of_length_eq_zero (by omega)
    have hget2 : D.st.get k = durAt D.dur k := by rw [hget, hws]; rfl
    refine wp_region_lit ?_
    refine st_go [1, 1, 1, 1] S rfl (by kernel_rfl) ?_; clear S a; intro a S
    refine st_y S rfl rfl rfl (y_indexA (m := 34) (sz := 64) S (by kernel_rfl) rfl rfl (by first | omega | (simp; done) | (simp; omega))) ?_; clear S a; intro a S
    try simp only [Int.toNat_natCast, Nat.mul_one, Nat.zero_add] at S
    try simp only [Int.toNat_natCast, Nat.zero_add] at S
    refine st_y S rfl rfl rfl (y_sliceA (m := 64) (sz := 1) S (by kernel_rfl) rfl) ?_; clear S a; intro a S
    refine st_call (xs := [(Operand.tmp 37)]) S (enters_of Try.func62 (by decide) rfl) rfl rfl rfl (cloneB_any _ (durAt D.dur k) _ (by unfold Bs; rw [durAt_len O.dur hk]; exact M.sliceAt (m := 64) (sz := 1) 0 rfl (dcells_at O.dur hk (M.blk 0 rfl)) (by rw [bcells_length, durAt_len O.dur hk]) (Nat.le_refl _) (by decide)) (by rw [durAt_len O.dur hk]; decide)) ?_
    rintro _ w3 ⟨v', rfl, hF⟩; refine ⟨_, rfl, ?_⟩; clear S a; intro a S
    refine st_go [1, 1] S rfl (by kernel_rfl) ?_; clear S a; intro a S
    refine nxC ?_
    refine wp_ret ?_
    refine end_two S rfl (res_tmp rfl) (res_tmp rfl) ?_
    exact ⟨v', rfl, by rw [hget2]; exact hF.from hK, by rw [hget2]; exact durAt_len O.dur hk⟩
  clear S; intro h24 S
  refine st_condT S rfl ?_
  refine wp_seq ?_
  obtain ⟨r, hr⟩ : ∃ r, s.ws[s.ws.length - 1]? = some r := ⟨_, List.getElem?_eq_getElem (by omega)⟩
  have hrm := List.mem_of_getElem? hr
  have hget2 : D.st.get k = r.bs := by rw [hget, List.getLast?_eq_getElem?, hr]
  have hrl := h64 r hrm
  refine wp_region_lit ?_
  refine st_go [1, 1] S rfl (by kernel_rfl) ?_; clear S a; intro a S
  refine st_y S rfl rfl rfl (y_lenS (E := 32) S rfl (by kernel_rfl)) ?_; clear S a; intro a S
  (first | refine st_y S rfl rfl rfl (y_subN S rfl rfl (by omega)) ?_ | refine st_y S rfl rfl rfl (y_int S rfl rfl rfl) ?_); clear S a; intro a S
  rw [show ((s.ws.length : Int) - 1) = ((s.ws.length - 1 : Nat) : Int) by omega] at S
  refine st_y S rfl rfl rfl (y_indexR (e := 32) (sz := 1) S (by kernel_rfl) rfl (M.readAll 2 rfl (by unfold maxLen; omega)) rfl (by first | omega | (simp; done) | (simp; omega))) ?_; clear S a; intro a S
  try simp only [Int.toNat_natCast, Nat.mul_one, Nat.zero_add] at S
  refine st_y S rfl rfl rfl (y_load S (by kernel_rfl) rfl ((M.readAll 2 rfl (by unfold maxLen; omega)).at_.one (s.ws.length - 1) (by rw [List.getElem?_map, hr]; rfl))) ?_; clear S a; intro a S
  refine st_call (xs := [(Operand.tmp 30)]) S (enters_of Try.func62 (by decide) rfl) rfl rfl rfl (cloneB_any r.val r.bs _ (M.readB (r := r) (by simp only [List.mem_cons, List.mem_append, List.mem_map]; exact .inr (.inr (.inr (.inl (.inl ⟨r, hrm, rfl⟩))))) (by omega)) (by omega)) ?_
  rintro _ w2 ⟨v', rfl, hF⟩; refine ⟨_, rfl, ?_⟩; clear S a; intro a S
  refine st_go [1, 1] S rfl (by kernel_rfl) ?_; clear S a; intro a S
  refine nxC ?_
  refine wp_ret ?_
  refine then_ret ?_
  refine end_two S rfl (res_tmp rfl) (res_tmp rfl) ?_
  exact ⟨v', rfl, by rw [hget2]; exact hF.from hK, by rw [hget2]; exact hrl⟩
theorem up_any {wc w : World} {A E : List Ent} {b : Nat} {S0 : DS} (hE : DkE b S0 E) (M : Mem wc w (A ++ E)) (hup : S0.down = true) :
    Calls Try.prog 13 #[.pointer (some ⟨b, 0, none⟩)] w fun e w' => e = .returned (.int .i64 0) ∧ ∃ E', DkE b { S0 with down := false } E' ∧ Mem wc w' (A ++ E') := by
  obtain ⟨D, rfl, O, rfl, rfl⟩ := hE
  replace M := M.perm List.perm_append_comm
  have hd : D.down = true := hup
  replace M : Mem wc w (.blk D.b (dcells D.dur D.m D.down).toArray 50 :: mapX D.m D.ml D.cl :: (secsE D.secs ++ A)) := M
  refine calls_enter Try.func13 rfl 13 rfl rfl ?_; intro a S
  refine wp_seq ?_
  skip
  refine wp_region_lit ?_
  refine st_go [1] S rfl (by kernel_rfl) ?_; clear S a; intro a S
  refine nxC ?_
  refine wp_seq ?_
  refine nxD ?_
  refine st_go [1] S rfl (by kernel_rfl) ?_; clear S a; intro a S
  refine st_y S rfl rfl rfl (y_eqlPS (by kernel_rfl) S rfl) ?_; clear S a; intro a S
  refine nxC ?_
  refine st_condF S rfl ?_
  refine wp_skip ?_
  refine then_normal ?_
  refine wp_seq ?_
  refine nxD ?_
  refine st_go [1, 1, 2178] S rfl (by kernel_rfl) ?_; clear S a; intro a S
  refine st_y S rfl rfl rfl (y_load S (by kernel_rfl) rfl (M.cell 0 rfl ((dcells_down O.dur _ _).trans (by rw [hd])))) ?_; clear S a; intro a S
  refine st_go [1] S rfl (by kernel_rfl) ?_; clear S a; intro a S
  refine nxC ?_
  refine st_if (t := 9) S rfl ?_ ?_
  · clear S; intro h9 S
    cases h9
  clear S; intro h9 S
  refine st_condF S rfl ?_
  refine wp_skip ?_
  refine nxE ?_
  refine st_go [1, 1, 2178] S rfl (by kernel_rfl) ?_; clear S a; intro a S
  refine st_store (us := [.bool false]) S M 0 rfl (by kernel_rfl) rfl rfl rfl rfl rfl rfl (by rw [dcells_len O.dur]; decide) ?_; clear M; intro wS M
  simp only [List.set_cons_zero, List.set_cons_succ] at M
  rw [dcells_setDown O.dur] at M
  refine nxA ?_
  refine st_go [1] S rfl (by kernel_rfl) ?_; clear S a; intro a S
  refine nxC ?_
  refine wp_ret ?_
  refine end_one S rfl (res_tmp rfl) ?_
  refine ⟨rfl, _, ⟨⟨D.b, D.m, D.cl, D.ml, D.dur, false, D.secs⟩, rfl, ⟨O.dur, O.good, O.nodup, O.tell, O.sec⟩, rfl, rfl⟩, ?_⟩
  exact Mem.perm (H := Dk.ents ⟨D.b, D.m, D.cl, D.ml, D.dur, false, D.secs⟩ ++ A) M List.perm_append_comm

end Go.Proofs.Ytafejnbfgkkjkaa

namespace Go.Proofs.Ytafejnbfgkkjkaa
open Go.RowKit Go.Sort

/-- a sector's bytes set -/
def dset (dur : List UInt8) (k : Nat) (bs : List UInt8) : List UInt8 := dur.take (k * 64) ++ bs ++ dur.drop (k * 64 + 64)
theorem dset_len {dur bs : List UInt8} {k : Nat} (h : dur.length = 2176) (hk : k < 34) (hb : bs.length = 64) : (dset dur k bs).length = 2176 := by
  unfold dset; simp only [List.length_append, List.length_take, List.length_drop]; omega
theorem dset_at {dur bs : List UInt8} {k : Nat} (h : dur.length = 2176) (hk : k < 34) (hb : bs.length = 64) (j : Nat) : durAt (dset dur k bs) j = if j = k then bs else durAt dur j := by
  have hl : (dur.take (k * 64)).length = k * 64 := by rw [List.length_take]; omega
  unfold durAt dset
  by_cases e : j = k
  · subst e
    rw [if_pos rfl, List.append_assoc]
    have := List.drop_left (l₁ := dur.take (j * 64)) (l₂ := bs ++ dur.drop (j * 64 + 64))
    rw [hl] at this
    rw [this, ← hb, List.take_left]
  · rw [if_neg e]
    rcases Nat.lt_or_ge j k with hj | hj
    · rw [List.append_assoc, List.drop_append_of_le_length (by omega), List.take_append_of_le_length (by rw [List.length_drop]; omega), List.drop_take, List.take_take, Nat.min_eq_left (by omega)]
    · have hl2 : (dur.take (k * 64) ++ bs).length = k * 64 + 64 := by rw [List.length_append, hl, hb]
      rw [List.drop_append, List.drop_of_length_le (by omega), List.nil_append, hl2, List.drop_drop]
      congr 2; omega
theorem dcells_put {dur bs : List UInt8} {k m : Nat} {d : Bool} (h : dur.length = 2176) (hk : k < 34) (hb : bs.length = 64) : (dcells dur m d).take (k * 64) ++ bcells bs ++ (dcells dur m d).drop (k * 64 + (bcells bs).length) = dcells (dset dur k bs) m d := by
  unfold dcells dset
  rw [bcells_length, hb, List.take_append_of_le_length (by rw [bcells_length]; omega), List.drop_append_of_le_length (by rw [bcells_length]; omega), bcells_append, bcells_append]
  simp only [bcells, List.map_take, List.map_drop, List.append_assoc]
theorem getM_mem {l : Mes Int} (h : (l.map (·.1)).Nodup) {q : Int × MapEntry} (hq : q ∈ l) : getM l q.1 = some q.2.val := by
  unfold getM
  cases hf : l.find? (fun p => decide (p.1 = q.1)) with
  | none => rw [List.find?_eq_none] at hf; exact absurd (by simp) (hf q hq)
  | some p =>
    have h1 := List.find?_some hf
    have h2 := List.mem_of_find?_eq_some hf
    simp only [decide_eq_true_eq] at h1
    obtain ⟨i, hi⟩ := List.getElem?_of_mem hq
    obtain ⟨j, hj⟩ := List.getElem?_of_mem h2
    have e1 : (l.map (·.1))[i]? = some q.1 := by rw [List.getElem?_map, hi]; rfl
    have e2 : (l.map (·.1))[j]? = some q.1 := by rw [List.getElem?_map, hj, ← h1]; rfl
    have := (List.getElem?_inj (List.getElem?_eq_some_iff.1 e1).1 h).1 (e1.trans e2.symm)
    subst this
    rw [hi] at hj; obtain rfl := Option.some.inj hj; rfl
theorem nodup_lenJ {α : Type} : ∀ {a b : List α}, a.Nodup → (∀ x ∈ a, x ∈ b) → a.length ≤ b.length
  | [], _, _, _ => Nat.zero_le _
  | x :: a, b, hn, hs => by
    obtain ⟨b1, b2, rfl⟩ := List.append_of_mem (hs x (by simp))
    rw [List.nodup_cons] at hn
    have := nodup_lenJ (a := a) (b := b1 ++ b2) hn.2 fun y hy => by
      rcases List.mem_append.1 (hs y (by simp [hy])) with h | h
      · exact List.mem_append_left _ h
      · rcases List.mem_cons.1 h with h | h
        · exact absurd (h ▸ hy) hn.1
        · exact List.mem_append_right _ h
    simp only [List.length_append, List.length_cons] at this ⊢
    omega
/-- all that was written is durable -/
def DS.flush (S : DS) : DS := ⟨S.get, fun _ => [], S.down⟩

/-- a sector's writes, where a disk's entries are owned -/
theorem Dk.look {D : Dk} (O : D.Ok) {q : Int × MapEntry} (hq : q ∈ D.ml) : ∃ (s : Sec) (r : RB) (k : Nat), s ∈ D.secs ∧ q.1 = (k : Int) ∧ k < 34 ∧ q.2.val = s.val ∧ 0 < s.ws.length ∧ s.ws[s.ws.length - 1]? = some r ∧ r.bs.length = 64 ∧ D.st.get k = r.bs := by
  have h1 := getM_mem O.good.nodup hq
  rw [O.tell] at h1
  cases hs : secOf D.secs q.1 with
  | none => rw [hs] at h1; cases h1
  | some s =>
    rw [hs] at h1
    have hv : s.val = q.2.val := Option.some.inj h1
    obtain ⟨P, Q, e, hkey⟩ := secOf_some hs
    have hm : s ∈ D.secs := by rw [e]; simp
    obtain ⟨⟨hk1, hk2⟩, hne, h64⟩ := O.sec s hm
    have hpos : 0 < s.ws.length := List.length_pos_iff.2 hne
    obtain ⟨r, hr⟩ : ∃ r, s.ws[s.ws.length - 1]? = some r := ⟨_, List.getElem?_eq_getElem (by omega)⟩
    refine ⟨s, r, q.1.toNat, hm, by omega, by omega, hv.symm, hpos, hr, h64 r (List.mem_of_getElem? hr), ?_⟩
    unfold DS.get Dk.st cacheOf
    simp only [show ((q.1.toNat : Nat) : Int) = q.1 by omega, hs, List.getLast?_eq_getElem?, List.length_map, List.getElem?_map, hr, Option.map_some]
theorem Dk.getNo {D : Dk} (O : D.Ok) {k : Nat} (h : ∀ q ∈ D.ml, q.1 ≠ (k : Int)) : D.st.get k = durAt D.dur k := by
  have hn : (k : Int) ∉ D.ml.map (·.1) := fun hm => by
    obtain ⟨q, hq, e⟩ := List.mem_map.1 hm
    exact h q hq e
  have h1 := O.tell (k : Int)
  rw [getM_none hn] at h1
  unfold DS.get Dk.st cacheOf
  cases hs : secOf D.secs (k : Int) with
  | some s => rw [hs] at h1; cases h1
  | none => simp only [hs, List.getLast?_nil]
theorem Mem.secRow {w0 w : World} {H : List Ent} (M : Mem w0 w H) {s : Sec} (hs : s.ent ∈ H) (hl : s.ws.length ≤ 1000000) : Rd 0 w.heap.size w 1 s.val s.ws.length (s.ws.map RB.val) := by
  obtain ⟨p, hp⟩ := List.getElem?_of_mem hs
  exact M.readAll p hp (by unfold maxLen; omega)
theorem secsE_ent {l : List Sec} {s : Sec} (h : s ∈ l) : s.ent ∈ secsE l := List.mem_flatMap.2 ⟨s, h, List.mem_cons_self ..⟩
theorem secsE_ws {l : List Sec} {s : Sec} (h : s ∈ l) {r : RB} (hr : r ∈ s.ws) : r.ent ∈ secsE l := List.mem_flatMap.2 ⟨s, h, List.mem_cons_of_mem _ (List.mem_map_of_mem hr)⟩
theorem dk_empty {b m cl : Nat} {dur : List UInt8} (h : dur.length = 2176) : Dk.Ok ⟨b, m, cl, [], dur, false, []⟩ := ⟨h, good_nil _, .nil, fun _ => rfl, fun s hs => (by cases hs)⟩
set_option maxHeartbeats 2000000 in
theorem flush_any {wc w : World} {A E : List Ent} {b : Nat} {S0 : DS} (hE : DkE b S0 E) (M : Mem wc w (A ++ E)) (hup : S0.down = false) (hw : ∀ k, (S0.cache k).length ≤ 1000000) :
    Calls Try.prog 18 #[.pointer (some ⟨b, 0, none⟩)] w fun e w' => e = .returned (.int .i64 0) ∧ ∃ E', DkE b S0.flush E' ∧ Mem wc w' (A ++ E') := by
  obtain ⟨D, rfl, O, rfl, rfl⟩ := hE
  replace M := M.perm List.perm_append_comm
  have hd : D.down = false := hup
  have hsl : ∀ s ∈ D.secs, s.ws.length ≤ 1000000 := fun s hs => by
    have h1 := hw s.key
    obtain ⟨P, Q, e⟩ := List.append_of_mem hs
    have h2 := secOf_mid (by rw [← e]; exact O.nodup) (P := P) (Q := Q) (s := s) s.key
    rw [if_pos rfl, ← e] at h2
    unfold Dk.st cacheOf at h1
    simp only [h2, List.length_map] at h1
    exact h1
  replace M : Mem wc w (.blk D.b (dcells D.dur D.m D.down).toArray 50 :: mapX D.m D.ml D.cl :: (secsE D.secs ++ A)) := M
  refine calls_enter Try.func18 rfl 38 rfl rfl ?_; intro a S
  refine wp_seq ?_
  skip
  refine wp_region_lit ?_
  refine st_go [1] S rfl (by kernel_rfl) ?_; clear S a; intro a S
  refine nxC ?_
  refine wp_seq ?_
  refine nxD ?_
  refine st_go [1] S rfl (by kernel_rfl) ?_; clear S a; intro a S
  refine st_y S rfl rfl rfl (y_eqlPS (by kernel_rfl) S rfl) ?_; clear S a; intro a S
  refine nxC ?_
  refine st_condF S rfl ?_
  refine wp_skip ?_
  refine then_normal ?_
  refine wp_seq ?_
  refine nxD ?_
  refine st_go [1, 1, 2178] S rfl (by kernel_rfl) ?_; clear S a; intro a S
  refine st_y S rfl rfl rfl (y_load S (by kernel_rfl) rfl (M.cell 0 rfl ((dcells_down O.dur _ _).trans (by rw [hd])))) ?_; clear S a; intro a S
  refine nxC ?_
  refine st_if (t := 10) S rfl ?_ ?_
  · clear S; intro h10 S
    cases h10
  clear S; intro h10 S
  refine st_condF S rfl ?_
  refine wp_skip ?_
  refine then_normal ?_
  refine wp_seq ?_
  refine nxD ?_
  refine st_go [1, 1, 2177] S rfl (by kernel_rfl) ?_; clear S a; intro a S
  refine st_y S rfl rfl rfl (y_load S (by kernel_rfl) rfl (M.cell 0 rfl (dcells_map O.dur _ _))) ?_; clear S a; intro a S
  refine st_rangeM (pos := 1) S M Try.underlying46 rfl rfl rfl rfl ?_; clear S M a; intro a w1 bI S M hB
  refine nxC ?_
  refine wp_block ?_
  refine wp_loop_g (fun m a w' => ∃ (vs : Mes Int) (dur : List UInt8), (∀ p ∈ vs, p ∈ D.ml) ∧ vs.Nodup ∧ m = D.ml.length - vs.length ∧ dur.length = 2176 ∧ (∀ j : Nat, durAt dur j = if (j : Int) ∈ vs.map (·.1) then D.st.get j else durAt D.dur j) ∧ Sees 38 a [(0, .pointer (some ⟨D.b, 0, none⟩)), (15, .pointer (some ⟨bI, 0, none⟩))] ∧ Mem wc w' (itX bI D.m D.cl (bornsM vs) D.cl :: .blk D.b (dcells dur D.m D.down).toArray 50 :: mapX D.m D.ml D.cl :: (secsE D.secs ++ A))) (D.ml.length) ?_ ?_
  · skip
    exact ⟨[], D.dur, fun p h => (by cases h), .nil, rfl, O.dur, fun j => (by simp), S.sub _ rfl, M⟩
  clear S M a; intro m a wl
  rintro ⟨vs, dur, hvs, hnd, rfl, hdl, hdat, S, M⟩
  refine nxD ?_
  refine st_nextM (pos := 0) (pm := 2) S M (O.good) (hvs) rfl rfl rfl rfl rfl ?_ ?_
  · intro hAll; clear S a; intro a S
    refine st_go [1] S rfl (by kernel_rfl) ?_; clear S a; intro a S
    refine nxC ?_
    refine wp_seq ?_
    refine st_condF S rfl ?_
    refine wp_exit ?_
    refine then_exit ?_
    refine then_exit ?_
    refine block_hit ?_
    refine nxE ?_
    refine st_go [1, 1, 2177] S rfl (by kernel_rfl) ?_; clear S a; intro a S
    refine st_y S rfl rfl rfl (y_load S (by kernel_rfl) rfl (M.cell 1 rfl (dcells_map hdl _ _))) ?_; clear S a; intro a S
    refine st_clearM (pos := 2) S M Try.underlying46 rfl rfl rfl ?_; clear M; intro w2 M
    simp only [List.set_cons_zero, List.set_cons_succ] at M
    refine nxA ?_
    refine st_go [1] S rfl (by kernel_rfl) ?_; clear S a; intro a S
    refine nxC ?_
    refine wp_ret ?_
    refine end_one S rfl (res_tmp rfl) ?_
    refine ⟨rfl, ?_⟩
    replace M := M.drop 0
    simp only [List.eraseIdx_cons_succ, List.eraseIdx_cons_zero] at M
    have hfl : D.st.flush = Dk.st ⟨D.b, D.m, D.cl, [], dur, false, []⟩ := by
      unfold DS.flush
      show DS.mk D.st.get (fun _ => []) D.st.down = DS.mk (durAt dur) (cacheOf []) false
      rw [show D.st.down = false from hd]
      congr 1
      funext j
      rw [hdat j]
      by_cases e : (j : Int) ∈ vs.map (·.1)
      · rw [if_pos e]
      · rw [if_neg e]
        exact Dk.getNo O fun q hq e2 => e (List.mem_map.2 ⟨q, hAll q hq, e2⟩)
    rw [hfl]
    refine ⟨_, ⟨⟨D.b, D.m, D.cl, [], dur, false, []⟩, rfl, dk_empty hdl, rfl, rfl⟩, ?_⟩
    rw [hd] at M
    exact (M.sub (H' := Dk.ents ⟨D.b, D.m, D.cl, [], dur, false, []⟩ ++ A) (.cons_cons _ (.cons_cons _ (List.sublist_append_right _ _)))).perm List.perm_append_comm
  intro q hq hnv; clear S M a; intro a w3 S M
  simp only [List.set_cons_zero, List.set_cons_succ] at M
  refine st_go [1] S rfl (by kernel_rfl) ?_; clear S a; intro a S
  refine nxC ?_
  refine wp_seq ?_
  refine st_condT S rfl ?_
  refine wp_skip ?_
  refine then_normal ?_
  refine wp_block ?_
  refine nxD ?_
  refine st_y S rfl rfl rfl (y_entryM (pos := 0) (pm := 2) S M (O.good) hq rfl rfl rfl) ?_; clear S a; intro a S
  refine st_go [1, 1, 1, 1] S rfl (by kernel_rfl) ?_; clear S a; intro a S
  refine nxC ?_
  obtain ⟨s, r, k, hsm, hqk, hk34, hqv, hpos, hr, hr64, hget⟩ := Dk.look O hq
  have hrm := List.mem_of_getElem? hr
  have hlw := hsl s hsm
  rw [hqk, hqv] at S
  refine wp_regionK [12] #[false, false, false, false, false, false, false, false, false, false, false, false, false] rfl M (by kernel_rfl) ?_; clear M; intro w4 M
  refine k_pure (listed' := #[true, false, false, false, false, false, false, false, false, false, false, false, false]) 0 S rfl rfl rfl rfl (by kernel_rfl) rfl (fun _ d _ _ _ h => by cases d <;> exact h) (fun w => y_move S rfl) ?_; clear S a; intro a S
  refine k_pure (listed' := #[true, true, false, false, false, false, false, false, false, false, false, false, false]) 1 S rfl rfl rfl rfl (by kernel_rfl) rfl (fun _ d _ _ _ h => by cases d <;> exact h) (fun w => y_move S rfl) ?_; clear S a; intro a S
  refine k_pure (listed' := #[true, true, true, false, false, false, false, false, false, false, false, false, false]) 2 S rfl rfl rfl rfl (by kernel_rfl) rfl (fun _ d _ _ _ h => by cases d <;> exact h) (fun w => y_nilCheck S rfl) ?_; clear S a; intro a S
  refine k_pure (listed' := #[true, true, true, true, false, false, false, false, false, false, false, false, false]) 3 S rfl rfl rfl rfl (by kernel_rfl) rfl (fun _ d _ _ _ h => by cases d <;> exact h) (fun w => y_fieldAddr (k := 0) S (by kernel_rfl) rfl) ?_; clear S a; intro a S
  refine k_pure (listed' := #[true, true, true, true, true, false, false, false, false, false, false, false, false]) 4 S rfl rfl rfl rfl (by kernel_rfl) rfl (fun _ d _ _ _ h => by cases d <;> exact h) (fun w => y_indexA (m := 34) (sz := 64) S (by kernel_rfl) rfl rfl (by first | omega | (simp; done) | (simp; omega))) ?_; clear S a; intro a S
  try simp only [Int.toNat_natCast, Nat.mul_one, Nat.zero_add] at S
  refine k_pure (listed' := #[true, true, true, true, true, true, false, false, false, false, false, false, false]) 5 S rfl rfl rfl rfl (by kernel_rfl) rfl (fun _ d _ _ _ h => by cases d <;> exact h) (fun w => y_sliceA (m := 64) (sz := 1) S (by kernel_rfl) rfl) ?_; clear S a; intro a S
  refine k_pure (listed' := #[true, true, true, true, true, true, true, false, false, false, false, false, false]) 6 S rfl rfl rfl rfl (by kernel_rfl) rfl (fun _ d _ _ _ h => by cases d <;> exact h) (fun w => y_move S rfl) ?_; clear S a; intro a S
  refine k_pure (listed' := #[true, true, true, true, true, true, true, true, false, false, false, false, false]) 7 S rfl rfl rfl rfl (by kernel_rfl) rfl (fun _ d _ _ _ h => by cases d <;> exact h) (fun w => y_move S rfl) ?_; clear S a; intro a S
  refine k_pure (listed' := #[true, true, true, true, true, true, true, true, true, false, false, false, false]) 8 S rfl rfl rfl rfl (by kernel_rfl) rfl (fun _ d _ _ _ h => by cases d <;> exact h) (fun w => y_lenS (E := 32) S rfl (by kernel_rfl)) ?_; clear S a; intro a S
  skip
  (first | refine k_pure (listed' := #[true, true, true, true, true, true, true, true, true, true, false, false, false]) 9 S rfl rfl rfl rfl (by kernel_rfl) rfl (fun _ d _ _ _ h => by cases d <;> exact h) (fun w => y_subN S rfl rfl (by omega)) ?_ | refine k_pure (listed' := #[true, true, true, true, true, true, true, true, true, true, false, false, false]) 9 S rfl rfl rfl rfl (by kernel_rfl) rfl (fun _ d _ _ _ h => by cases d <;> exact h) (fun w => y_int S rfl rfl rfl) ?_); clear S a; intro a S
  rw [show ((s.ws.length : Int) - 1) = ((s.ws.length - 1 : Nat) : Int) by omega] at S
  refine k_read (listed' := #[true, true, true, true, true, true, true, true, true, true, true, false, false]) 10 S rfl rfl rfl rfl (by kernel_rfl) rfl (fun _ d _ _ _ h => by cases d <;> exact h) (fun w hW => have M := M.grow hW; y_indexR (e := 32) (sz := 1) S (by kernel_rfl) rfl (M.secRow (s := s) (.tail _ (.tail _ (.tail _ (List.mem_append_left _ (secsE_ent hsm))))) hlw) rfl (by first | omega | (simp; done) | (simp; omega))) ?_; clear S a; intro a S
  try simp only [Int.toNat_natCast, Nat.mul_one, Nat.zero_add] at S
  refine k_read (listed' := #[true, true, true, true, true, true, true, true, true, true, true, true, false]) 11 S rfl rfl rfl rfl (by kernel_rfl) rfl (fun _ d _ _ _ h => by cases d <;> exact h) (fun w hW => have M := M.grow hW; y_load S (by kernel_rfl) rfl ((M.secRow (s := s) (.tail _ (.tail _ (.tail _ (List.mem_append_left _ (secsE_ent hsm))))) hlw).at_.one (s.ws.length - 1) (by rw [List.getElem?_map, hr]; rfl))) ?_; clear S a; intro a S
  refine k_one (listed' := #[true, true, true, true, true, true, true, true, true, true, true, true, true]) 12 rfl (by kernel_rfl) rfl ?_
  refine st_copy (e := 5) (us := bcells r.bs) S M 1 rfl rfl (by kernel_rfl) rfl rfl rfl (M.readB (r := r) (.tail _ (.tail _ (.tail _ (List.mem_append_left _ (secsE_ws hsm hrm))))) (by omega)) (List.take_of_length_le (by rw [bcells_length]; omega)) (allOne_bcells _) (by rw [dcells_len hdl, bcells_length]; omega) ?_; clear S M a; intro a w5 S M
  simp only [List.set_cons_zero, List.set_cons_succ] at M
  refine wpList_nil ?_; refine then_normal ?_; refine ⟨fun h => absurd h (by decide), ?_⟩
  refine k_end (by kernel_rfl) ?_
  replace S := S.sub [(0, _), (15, _), (17, _), (3, _), (4, _)] rfl
  refine block_normal ?_
  refine then_normal ?_
  skip
  rw [dcells_put hdl hk34 hr64] at M
  have hnd2 : (vs ++ [q]).Nodup := by
    rw [List.nodup_append]
    exact ⟨hnd, by simp, fun x hx y hy e => hnv (by simp at hy; rw [← hy, ← e]; exact hx)⟩
  have hvs2 : ∀ p ∈ vs ++ [q], p ∈ D.ml := fun p hp => by
    rcases List.mem_append.1 hp with h | h
    · exact hvs p h
    · obtain rfl := List.mem_singleton.1 h; exact hq
  have hlt := nodup_lenJ hnd2 hvs2
  rw [List.length_append] at hlt
  refine ⟨D.ml.length - (vs ++ [q]).length, by rw [List.length_append]; simp at hlt ⊢; omega, vs ++ [q], _, hvs2, hnd2, rfl, dset_len hdl hk34 hr64, fun j => ?_, S.sub _ rfl, M⟩
  rw [dset_at hdl hk34 hr64, hdat j]
  by_cases e : j = k
  · subst e
    rw [if_pos rfl, if_pos (by simp [hqk]), hget]
  · rw [if_neg e]
    have : (j : Int) ∈ (vs ++ [q]).map (·.1) ↔ (j : Int) ∈ vs.map (·.1) := by
      simp only [List.map_append, List.map_cons, List.map_nil, List.mem_append, List.mem_singleton, hqk]
      exact ⟨fun h => h.resolve_right (by omega), .inl⟩
    simp only [this]

end Go.Proofs.Ytafejnbfgkkjkaa
