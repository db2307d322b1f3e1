/-
  What PartStrict rests on, part 6.
-/
import Derived.Lib.Overlaps
import Derived.Lib.AppendZerosOnto
import Derived.Test.YtocppoflhllelaaGreatP3
namespace Go.Proofs.YtocppoflhllelaaGreat
open Go.RowKit Go.Sort
section
variable {ds : List Deferred}
variable {P : Program} {ops : Array Oper} {Q : Exit → Act → World → Prop} {rest : List Oper} {n d : Nat} {a : Act} {L : List (Nat × Value)} {w w0 : World} {v : Value} {o : Oper} {H : List Ent}
variable {ed : Array Edge} {y : Operand} {g : Option (Nat × Bool)} {p : String}
theorem Jdw (w : World) (dT sT ty elem : TypeId) (g o dLen dCap : Nat) (ad : Addr) (sLen sCap sz : Nat) (cur : Array Value) (t : TypeId) (cs : List Value)
 (hu : P.underlying dT = some (.slice elem)) (hs : (P.info? elem).map (·.size) = some sz) (hg : w.heap[g]? = some (.cells cur t (0, 0))) (hn : cs.length = Nat.min sLen dLen * sz)
 (hsrc : ∀ j v, cs[j]? = some v → w.cell? (ad.add j) = some v) (hfit : o + cs.length ≤ cur.size) (h1 : ∀ v ∈ cs, v.oneCell' = true) :
 (Builtin.copy_ #[dT, sT] ty #[.slice (some ⟨g, o, none⟩) dLen dCap, .slice (some ad) sLen sCap]).run P w = .ok (goInt (Nat.min sLen dLen)) (w.setRow g (cur.toList.take o ++ cs ++ cur.toList.drop (o + cs.length)).toArray) := by
 have hl := run_loadCells_list (P := P) w ad cs hsrc
 have hst := run_storeCells_at P g o t cs 0 cur w hg o_ h1
 cases hq : P.info? elem with
 | none => grind
 | some i =>
   have hi : i.size = sz := by grind
   rw [hn] at hl
   simp [Builtin.copy_, run_underlying hu, Builtin.lenOf, Builtin.firstCells, sizeOf, typeInfo, hq, hi, hl, hst]
theorem Zi {t e sz b o dl dc b2 o2 sl sc : Nat} {s : Operand} {l us : List Value} {T : TypeId} (S : SeesD ds n a L) (M : Mem w0 w H) (pos : Nat) {d : Nat} {ty : TypeId} 
 (hg : gd ops L ⟨some d, .call { callee := .builtin .copy, args := #[s, y], argTypes := #[t, t] }, ty, p, ed, g⟩ = some true) (hn : Nat.blt d n = true)
 (hE : JX P t = some (e, sz)) (hs : val L s = some (.slice (some ⟨b, o, none⟩) dl dc)) (hy : val L y = some (.slice (some ⟨b2, o2, none⟩) sl sc)) (hp : H[pos]? = some (.blk b l.toArray T)) (hc : CellsAt w b2 o2 us) (hl : us.length = Nat.min sl dl * sz) (h1 : Jp us = true) (hfit : o + us.length ≤ l.length)
 (kk : ∀ a w, SeesD ds n a ((d, .int .i64 ((Nat.min sl dl : Nat) : Int)) :: L) → Mem w0 w (H.set pos (.blk b (l.take o ++ us ++ l.drop (o + us.length)).toArray T)) → wpList P ops Q rest a w) :
 wpList P ops Q (⟨some d, .call { callee := .builtin .copy, args := #[s, y], argTypes := #[t, t] }, ty, p, ed, g⟩ :: rest) a w := by
 obtain ⟨hu, inf, hinf, hsz⟩ := Vw hE
 have B := M.blk pos hp
 obtain ⟨cs', hrun⟩ := Vt (P := P) (w := w) (b := .copy) (xs := [s, y]) (vs := [.slice (some ⟨b, o, none⟩) dl dc, .slice (some ⟨b2, o2, none⟩) sl sc]) S (by grind [Vl]) (d := some d) (ts := #[t, t]) (t := ty) (p := p) (e := ed) (g := g)
 have hr := Jdw (P := P) w t t ty e b o dl dc ⟨b2, o2, none⟩ sl sc sz l.toArray T us hu (by grind) B hl hc.add o_ (jn h1)
 refine ZP (v := .int .i64 ((Nat.min sl dl : Nat) : Int)) (w' := _) S hg rfl hn (by
  rw [hrun]
  simp only [builtin, Sem.run_bind]
  rw [show [Value.slice (some ⟨b, o, none⟩) dl dc, .slice (some ⟨b2, o2, none⟩) sl sc].toArray = #[.slice (some ⟨b, o, none⟩) dl dc, .slice (some ⟨b2, o2, none⟩) sl sc] from rfl, hr]
  rfl) fun a S' => kk a _ S' ?_
 exact M.change pos hp rfl rfl (setRow_heap w b l.toArray _ T _ B) (by simp [World.setRow]) rfl rfl rfl (fun k hk => setRow_other w b k _ (fun e => hk (by grind [Ent.lo, Ent.hi])))
theorem QL {t tn e sz by_ i k c g0 : Nat} {kn kq : IntKind} {zc xs cur : List Value} {s : Operand} {T : TypeId} (S : SeesD ds n a L) (M : Mem w0 w H) (pos : Nat) {d : Nat} {ty : TypeId} 
 (hg : gd ops L ⟨some d, .call { callee := .builtin .append, args := #[s, y], argTypes := #[t, tn] }, ty, p, ed, g⟩ = some true) (hn : Nat.blt d n = true)
 (hI : VO P t = some (e, sz, by_, zc)) (htn : P.underlying tn = some (.int kn)) (hzs : zc.length = sz) (hsz : 0 < sz) (hs : val L s = some (.slice (some ⟨g0, 0, none⟩) i c)) (hy : val L y = some (.int kq (k : Int))) (hp : H[pos]? = some (.blk g0 cur.toArray T)) (hx : cur.take (i * sz) = xs) (hxl : xs.length = i * sz)
 (hk : 0 < k) (hroom : c < i + k) (hb : (i + k) * by_ ≤ 140737488355328) (h63 : i + k ≤ maxLen)
 (kk : ∀ a w b cap more, SeesD ds n a ((d, .slice (some ⟨b, 0, none⟩) (i + k) cap) :: L) → i + k ≤ cap → cap ≤ maxLen → (xs ++ more).length = cap * sz → Mem w0 w (.blk b (xs ++ more).toArray e :: H) → wpList P ops Q rest a w) :
 wpList P ops Q (⟨some d, .call { callee := .builtin .append, args := #[s, y], argTypes := #[t, tn] }, ty, p, ed, g⟩ :: rest) a w := by
 obtain ⟨hu, inf, z, hi', hz, rfl, rfl, hzc⟩ := V6 hI
 have B := M.blk pos hp
 have hzs' : z.cells.size = inf.size := by grind
 have hcell : ∀ j v, xs[j]? = some v → w.drew.cell? ((⟨g0, 0, none⟩ : Addr).add j) = some v := fun j v hj => by
  rw [ZX, Nat.zero_add]
  have : w.drew.heap = w.heap := rfl
  unfold World.cell?
  rw [this, B]
  grind
 have hl := run_loadCells_list (P := P) w.drew ⟨g0, 0, none⟩ xs hcell
 rw [hxl] at hl
 have hge := grownCap_ge w (i + k) c e
 have hcm : grownCap w (i + k) c e ≤ maxLen := grownCap_le_maxLen w (i + k) c e h63
 have hr := Lib.run_append_grow_zeros (P := P) w t tn ty e inf z kq kn hu htn hi' hz (some ⟨g0, 0, none⟩) i c xs (by grind [Builtin.firstCells]) k hk hsz hroom (by grind [maxLen])
  (Nat.le_trans (Nat.mul_le_mul_right _ (Nat.le_add_left k i)) o_) (growslice_fits o_ hb)
 obtain ⟨cs', hrun⟩ := Vt (P := P) (w := w) (b := .append) (xs := [s, y]) (vs := [.slice (some ⟨g0, 0, none⟩) i c, .int kq (k : Int)]) S (by grind [Vl]) (d := some d) (ts := #[t, tn]) (t := ty) (p := p) (e := ed) (g := g)
 refine ZP (v := .slice (some ⟨w.heap.size, 0, none⟩) (i + k) (grownCap w (i + k) c e)) (w' := _) S hg rfl hn (by
  rw [hrun]
  simp only [builtin, Sem.run_bind]
  rw [show [Value.slice (some ⟨g0, 0, none⟩) i c, .int kq (k : Int)].toArray = #[.slice (some ⟨g0, 0, none⟩) i c, .int kq (k : Int)] from rfl, hr]
  rfl) fun a S' => kk a _ w.heap.size (grownCap w (i + k) c e) ((Builtin.zeroCells z.cells k).toList ++ (Builtin.zeroCells z.cells (grownCap w (i + k) c e - (i + k))).toList) S' hge hcm ?_ ?_
 ·simp only [List.length_append, Array.length_toList, size_zeroCells, hxl, hzs', ← Nat.add_mul]
  grind
 ·have e1 : (xs ++ ((Builtin.zeroCells z.cells k).toList ++ (Builtin.zeroCells z.cells (grownCap w (i + k) c e - (i + k))).toList)).toArray = xs.toArray ++ Builtin.zeroCells z.cells k ++ Builtin.zeroCells z.cells (grownCap w (i + k) c e - (i + k)) := by
   grind
  rw [e1]
  exact M.drew.alloc _ _
theorem KK {f : FuncId} {fn : Func} {tS tR e : TypeId} {size b1 o1 l1 c1 b2 o2 l2 c2 : Nat} {x : Operand} {A1 A2 : Array Value} {T1 T2 : TypeId} (S : SeesD ds n a L) (M : Mem w0 w H) {d : Nat} {ts : Array TypeId} {t : TypeId} (p1 p2 : Nat)
 (hf : P.funcs[f]? = some fn) (h1 : (fn.name == "runtime.NumGoroutine") = false) (h2 : fn.body.isNone = true) (h3 : Extern.findNext fn = none) (h4 : Extern.find fn = some (Extern.SlicesOverlaps.overlaps #[tS, tS] #[tR]))
 (hE : JX P tS = some (e, size))
 (hg : gd ops L ⟨some d, .call { callee := .value (.func f), args := #[x, y], argTypes := ts }, t, p, ed, g⟩ = some true) (hn : Nat.blt d n = true) (hx : val L x = some (.slice (some ⟨b1, o1, none⟩) l1 c1)) (hy : val L y = some (.slice (some ⟨b2, o2, none⟩) l2 c2)) (hne : b1 ≠ b2)
 (hp1 : H[p1]? = some (.blk b1 A1 T1)) (hp2 : H[p2]? = some (.blk b2 A2 T2)) (hA2 : A2.size ≠ 0)
 (k : ∀ a, SeesD ds n a ((d, .bool false) :: L) → wpList P ops Q rest a w) : wpList P ops Q (⟨some d, .call { callee := .value (.func f), args := #[x, y], argTypes := ts }, t, p, ed, g⟩ :: rest) a w := by
 have B1 := M.blk p1 hp1
 have B2 := M.blk p2 hp2
 unfold Blk at B1 B2
 obtain ⟨hu, inf, hinf, rfl⟩ := Vw hE
 refine ZP (v := .bool false) (w' := w) S hg rfl hn ?_ fun a S' => k a S'
 have h : #[x, y].map a.eval = #[.slice (some ⟨b1, o1, none⟩) l1 c1, .slice (some ⟨b2, o2, none⟩) l2 c2] := by simp [S.eval hx, S.eval hy]
 unfold execOp
 simp only [resolve, h, Act.eval, Deferred.ofValue, Sem.run_bind, Sem.run_pure, Result.andThen_ok, invoke, Array.append_empty, Array.empty_append]
 rw [run_callFunc_extern hf h1 h2 h3 h4, Lib.run_overlaps_apart w tS tR e hu inf.size (fun w => YL hinf) ⟨b1, o1, none⟩ ⟨b2, o2, none⟩ l1 c1 l2 c2 hne T1 T2 A1.size A2.size (by simp [World.shape?, B1]) (by simp [World.shape?, B2]) hA2 (by simp [World.frozen?, B1]) (by simp [World.frozen?, B1])]
 rfl
end
section
variable {K : Nat → Act → World → Prop}
theorem Jhj {ds : List Deferred} {P : Program} {n : Nat} {a : Act} {L : List (Nat × Value)} {w : World} {x : Operand} {ad : Option Addr} {l c T m e : Nat} (S : SeesD ds n a L) (hx : val L x = some (.slice ad l c)) (hT : P.underlying T = some (.array m e)) (h : m ≤ l)
 {d : Option Tmp} {t : TypeId} {p : String} {ed : Array Edge} {g : Option (Nat × Bool)} : Je P a ⟨d, .sliceToArrayPointer T x, t, p, ed, g⟩ w (.pointer ad) := by
 unfold Je execOp
 simp only [S.eval hx, Sem.run_bind, Instr.arrayAt, run_underlying hT, Result.andThen]
 rw [if_neg o_]
 rfl
variable {P : Program} {a : Act} {w : World} {Q : Exit → Act → World → Prop}
def Uj (K : Nat → Act → World → Prop) (Q : Exit → Act → World → Prop) : Exit → Act → World → Prop
 | .goto i, a, w => K i a w
 | e, a, w => Q e a w
theorem GL {c : Code} (B : Nat) (J : Nat → Nat → Act → World → Prop) (first : c.wp P (Uj (fun l a w => ∃ m, m < B ∧ J l m a w) Q) a w)
 (pass : ∀ l m a w, J l m a w → ∃ rest, findLabel c l = some rest ∧ rest.wp P (Uj (fun l' a w => ∃ m', m' < m ∧ J l' m' a w) Q) a w) : (Code.scope c).wp P Q a w := by
 intro b k cs
 have key : ∀ m l a w, J l m a w → ∃ rest, findLabel c l = some rest ∧ ∃ e a' w', Q e a' w' ∧ Arrives P (lone (b.at a (.code rest :: .inScope c :: k)) cs w) b k cs e a' w' := by
  intro m
  induction m using Nat.strongRecOn with
  | _ m ih =>
    intro l a w hJ
    obtain ⟨rest, hf, hp⟩ := pass l m a w hJ
    refine ⟨rest, hf, ?_⟩
    obtain ⟨e, a₁, w₁, hq, harr⟩ := hp b (.inScope c :: k) cs
    cases e with
    | normal => exact ⟨.normal, a₁, w₁, hq, Steps.trans harr (.one step_inScope)⟩
    | exit id => exact ⟨.exit id, a₁, w₁, hq, fun k' hk => harr k' (by simp [exitTo, hk])⟩
    | goto l' =>
      obtain ⟨m', hlt, hJ'⟩ := hq
      obtain ⟨rest2, hf2, e₂, a₂, w₂, hq₂, harr₂⟩ := ih m' hlt l' a₁ w₁ hJ'
      have hg : gotoIn l' (.inScope c :: k) = some (.code rest2 :: .inScope c :: k) := by grind [gotoIn]
      exact ⟨e₂, a₂, w₂, hq₂, .of_steps (harr _ hg) harr₂⟩
    | ret => exact ⟨_, a₁, w₁, hq, harr⟩
    | panic ch => exact ⟨_, a₁, w₁, hq, harr⟩
    | outgrown => exact ⟨_, a₁, w₁, hq, harr⟩
 obtain ⟨e, a₁, w₁, hq, harr⟩ := first b (.inScope c :: k) cs
 cases e with
 | normal => exact ⟨.normal, a₁, w₁, hq, .head step_scope (Steps.trans harr (.one step_inScope))⟩
 | exit id => exact ⟨.exit id, a₁, w₁, hq, fun k' hk => .head step_scope (harr k' (by simp [exitTo, hk]))⟩
 | goto l' =>
   obtain ⟨m', -, hJ'⟩ := hq
   obtain ⟨rest2, hf2, e₂, a₂, w₂, hq₂, harr₂⟩ := key m' l' a₁ w₁ hJ'
   have hg : gotoIn l' (.inScope c :: k) = some (.code rest2 :: .inScope c :: k) := by grind [gotoIn]
   exact ⟨e₂, a₂, w₂, hq₂, .of_steps (.head step_scope (harr _ hg)) harr₂⟩
 | ret => exact ⟨_, a₁, w₁, hq, .of_steps (.one step_scope) harr⟩
 | panic ch => exact ⟨_, a₁, w₁, hq, .of_steps (.one step_scope) harr⟩
 | outgrown => exact ⟨_, a₁, w₁, hq, .of_steps (.one step_scope) harr⟩
theorem Jdq (h : Q .normal a w) : Uj K Q .normal a w := h
theorem yA (h : Q .ret a w) : Uj K Q .ret a w := h
theorem Z4 {l : Nat} (h : K l a w) : Uj K Q (.goto l) a w := h
end
section
variable {ds : List Deferred}
variable {P : Program} {ops : Array Oper} {Q : Exit → Act → World → Prop} {rest : List Oper} {n d : Nat} {a : Act} {L : List (Nat × Value)} {w w0 : World} {v : Value} {o : Oper} {H : List Ent}
variable {A : List Ent} {k : Nat}
structure RIr where
 lo : Nat
 hi : Nat
 a : Option Addr
 c : Nat
 zs : List Int
abbrev RIr.val (r : RIr) : Value := .slice r.a r.zs.length r.c
def RIr.ent (r : RIr) : Ent := Jd r.lo r.hi 3 1 r.val r.zs.length (Vi r.zs)
def V2 (R : List RIr) : List Ent := R.map RIr.ent
def vE (R : List RIr) : List Value := R.map RIr.val
theorem WV (R : List RIr) : (vE R).length = R.length := by simp [vE]
theorem GU {R : List RIr} {r : RIr} (h : R[k]? = some r) : (vE R).toArray[k]? = some r.val := by
 grind [vE]
theorem WU {R : List RIr} (hk : k < R.length) (r : RIr) : Jt (vE R) k [r.val] = vE (R.set k r) := by
 have e := List.getElem?_eq_getElem hk
 unfold vE
 conv => lhs; rw [← List.take_append_drop k R, List.drop_eq_getElem_cons hk]
 rw [List.map_append, List.map_cons]
 have := jy (A := (R.take k).map RIr.val) (B := [RIr.val R[k]]) (C := (R.drop (k + 1)).map RIr.val) (us := [r.val]) rfl
 grind [List.set_eq_take_append_cons_drop]
theorem Mem.rowsNil (M : Mem w0 w H) : ∀ k, Mem w0 w (H ++ V2 (List.replicate k ⟨w.heap.size, w.heap.size, none, 0, []⟩))
 | 0 => by grind [V2]
 | k + 1 => by
   have := (M.rowsNil k).rowNil 3 1
   refine this.perm ?_
   rw [List.replicate_succ]
   show (RIr.ent ⟨w.heap.size, w.heap.size, none, 0, []⟩ :: (H ++ V2 (List.replicate k ⟨w.heap.size, w.heap.size, none, 0, []⟩))).Perm (H ++ (RIr.ent ⟨w.heap.size, w.heap.size, none, 0, []⟩ :: V2 (List.replicate k ⟨w.heap.size, w.heap.size, none, 0, []⟩)))
   exact List.perm_middle.symm
theorem Mem.rowsGet {R : List RIr} {r : RIr} (M : Mem w0 w (A ++ V2 R)) (hk : R[k]? = some r) (hm : r.zs.length ≤ maxLen) : Rd 0 w.heap.size w 1 r.val r.zs.length (Vi r.zs) := by
 have hp : (A ++ V2 R)[A.length + k]? = some r.ent := by
  grind [V2]
 exact M.readAll (A.length + k) hp hm
theorem Mem.rowsSet {R : List RIr} {r : RIr} (hk : k < R.length) (M : Mem w0 w (r.ent :: (A ++ (V2 R).eraseIdx k))) : Mem w0 w (A ++ V2 (R.set k r)) := by
 refine M.perm ?_
 have h1 : (V2 (R.set k r))[k]? = some r.ent := by grind [V2]
 obtain ⟨h2, h3⟩ := List.getElem?_eq_some_iff.1 h1
 have h4 := Ge (V2 (R.set k r)) k h2
 rw [h3] at h4
 have h5 : (V2 (R.set k r)).eraseIdx k = (V2 R).eraseIdx k := by grind [V2, List.map_set]
 rw [h5] at h4
 exact List.perm_middle.symm.trans (List.Perm.append_left A h4)
theorem QM {R : List RIr} {lo hi t : Nat} {r : RIr} {z : Int} {x : Value} {s y : Operand} (S : SeesD ds n a L) (M : Mem w0 w (A ++ V2 R)) (hk : R[k]? = some r) (hl : r.zs.length ≤ 1000000) {d : Nat} {ty : TypeId} {p : String} {ed : Array Edge} {g : Option (Nat × Bool)} 
 (hg : gd ops L ⟨some d, .call { callee := .builtin .append, args := #[s, y], argTypes := #[t, t] }, ty, p, ed, g⟩ = some true) (hn : Nat.blt d n = true)
 (hI : VO P t = some (3, 1, 8, [.int .i64 0])) (hs : val L s = some r.val) (hy : val L y = some x) (hx : Rd lo hi w 1 x 1 [.int .i64 z])
 (kk : ∀ a w r', r'.zs = r.zs ++ [z] → SeesD ds n a ((d, r'.val) :: L) → Mem w0 w (A ++ V2 (R.set k r')) → wpList P ops Q rest a w) :
 wpList P ops Q (⟨some d, .call { callee := .builtin .append, args := #[s, y], argTypes := #[t, t] }, ty, p, ed, g⟩ :: rest) a w := by
 have hp : (A ++ V2 R)[A.length + k]? = some r.ent := by
  grind [V2]
 refine JI S M (A.length + k) hg hn hI rfl d_ hs hy hp hx rfl o_ (by grind [maxLen]) fun a w v' l' h' S' M' => ?_
 rw [List.eraseIdx_append_of_length_le o_, show A.length + k - A.length = k by omega] at M'
 obtain ⟨ad, cap, rfl, -, -⟩ := (M'.readAll 0 rfl (by grind [maxLen])).form
 have e1 : (r.zs ++ [z]).length = r.zs.length + 1 := by simp
 have e2 : Vi (r.zs ++ [z]) = Vi r.zs ++ [.int .i64 z] := by simp [Vi]
 refine kk a w ⟨l', h', ad, cap, r.zs ++ [z]⟩ rfl (by grind) (Mem.rowsSet (List.getElem?_eq_some_iff.1 hk).1 ?_)
 grind [RIr.ent]
end
end Go.Proofs.YtocppoflhllelaaGreat
