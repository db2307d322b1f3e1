/-
  What PartStrict rests on, part 20.
-/
import Derived.Test.YtocppoflhllelaaGreatP5
import Derived.Test.YtocppoflhllelaaGreatP8
namespace Go.Proofs.YtocppoflhllelaaGreat
open Go.RowKit Go.Sort
theorem yB (k : Int) (w : World) : CQ 314 #[.int .i64 k] w (.bool (decide (1 ≤ k ∧ k ≤ 1099511627776))) := by
 have M := Mem.start w
 refine vL Tryz.func314 rfl _ rfl rfl ?_
 intro a S
 refine gq [[2,1],[4,1,1,1],[940,5]] ?_ ?_
 ·intro a h5 S
  refine gp [[0,1,1,1,1],[3],[930]] ?_
  refine ⟨Jb ?_, M.below⟩; grind
 intro a h5 S
 refine gp [[0,0,0,1,1],[3],[930]] ?_
 refine ⟨Jb ?_, M.below⟩; grind
theorem y8 (k : Int) (w : World) : CQ 315 #[.int .i64 k] w (.bool (decide (0 ≤ k ∧ k ≤ 1048576))) := by
 have M := Mem.start w
 refine vL Tryz.func315 rfl _ rfl rfl ?_
 intro a S
 refine gq [[2,1],[4,1,1,1],[940,5]] ?_ ?_
 ·intro a h5 S
  refine gp [[0,1,1,1,1],[3],[930]] ?_
  refine ⟨Jb ?_, M.below⟩; grind
 intro a h5 S
 refine gp [[0,0,0,1,1],[3],[930]] ?_
 refine ⟨Jb ?_, M.below⟩; grind
structure Fr where
 seq : Int
 inc : Int
 part : Int
 of : Int
 mark : BitVec 32
abbrev Fr.cells (f : Fr) (lv : Value) : List Value := [.int .i64 f.seq, .int .i64 f.inc, .int .i64 f.part, .int .i64 f.of, .int .u32 (f.mark.toNat : Int), lv]
def Fr.may (f : Fr) (l : Nat) : Bool := decide ((1 ≤ f.seq ∧ f.seq ≤ 1099511627776) ∧ (0 ≤ f.inc ∧ f.inc ≤ 1048576) ∧ (1 ≤ f.of ∧ f.of ≤ 2) ∧ (0 ≤ f.part ∧ f.part < f.of) ∧ (1 ≤ l ∧ l ≤ 45) ∧ (f.part < f.of - 1 → l = 45))
theorem JfU (f : Fr) (ad : Option Addr) (l c : Nat) (w : World) : CQ 336 #[.agg (f.cells (.slice ad l c)).toArray] w (.bool (f.may l)) := by
 have M := Mem.start w
 refine vL Tryz.func336 rfl _ rfl rfl ?_
 intro a S
 refine nxD (qW_ S M ?_); intro a w1 b1 S M hB
 refine qG [1] S ?_; intro a S
 refine nxC (wp_scope_straight ?_)
 refine gp [[2,1],[3]] ?_; intro a S
 refine wp_label ?_
 refine gp [[6,1,1]] ?_; intro a S
 refine qK S rfl (yB _ _) M ?_; intro a w2 S hK M
 refine gq [[0,1,1],[2],[940,4]] ?_ ?_
 ·intro a h4 S
  refine gp [[9,1,1],[3]] ?_; intro a S
  refine YK ?_
  refine qO S ?_
  refine ⟨Jb ?_, M.below⟩; grind [Fr.may]
 intro a h4 S
 refine gp [[2,2,1]] ?_; intro a S
 refine qK S rfl (y8 _ _) M ?_; intro a w3 S hK M
 refine gq [[0,1,1],[2],[940,4]] ?_ ?_
 ·intro a h4 S
  refine gp [[6,1,1],[3]] ?_; intro a S
  refine YK ?_
  refine qO S ?_
  refine ⟨Jb ?_, M.below⟩; grind [Fr.may]
 intro a h4 S
 refine gq [[4,4,1,1,1],[2],[940,13]] ?_ ?_
 ·intro a h13 S
  refine gp [[9,1,1],[3]] ?_; intro a S
  refine YK ?_
  refine qO S ?_
  refine ⟨Jb ?_, M.below⟩; grind [Fr.may]
 intro a h13 S
 refine gq [[2,4,1,1,1],[2],[940,13]] ?_ ?_
 ·intro a h13 S
  refine gp [[6,1,1],[3]] ?_; intro a S
  refine YK ?_
  refine qO S ?_
  refine ⟨Jb ?_, M.below⟩; grind [Fr.may]
 intro a h13 S
 refine gq [[4,3,1,1,1],[2],[940,20]] ?_ ?_
 ·intro a h20 S
  refine gp [[9,1,1],[3]] ?_; intro a S
  refine YK ?_
  refine qO S ?_
  refine ⟨Jb ?_, M.below⟩; grind [Fr.may]
 intro a h20 S
 refine gq [[2,3,1,4,1,1,1],[2],[940,20]] ?_ ?_
 ·intro a h20 S
  refine gp [[6,1,1],[3]] ?_; intro a S
  refine YK ?_
  refine qO S ?_
  refine ⟨Jb ?_, M.below⟩; grind [Fr.may]
 intro a h20 S
 refine gq [[4,6,1],[903,5],[0,1,1],[2],[940,29]] ?_ ?_
 ·intro a h29 S
  refine gp [[9,1,1],[3]] ?_; intro a S
  refine YK ?_
  refine qO S ?_
  refine ⟨Jb ?_, M.below⟩; grind [Fr.may]
 intro a h29 S
 refine gq [[2,6,1],[903,5],[0,1,1],[2],[940,29]] ?_ ?_
 ·intro a h29 S
  refine gp [[6,1,1],[3]] ?_; intro a S
  refine YK ?_
  refine qO S ?_
  refine ⟨Jb ?_, M.below⟩; grind [Fr.may]
 intro a h29 S
 refine gq [[3,3,1,4,1],[901],[0,1,1],[943,45]] ?_ ?_
 ·intro a h45 S
  refine gp [[0,0,0,0,0,1,1],[4,1],[5,1,1],[3]] ?_; intro a S
  refine YK ?_
  refine qO S ?_
  refine ⟨Jb ?_, M.below⟩; grind [Fr.may]
 intro a h45 S
 refine gq [[0,6,1],[903,5],[0,1,1,1],[2],[940,38]] ?_ ?_
 ·intro a h38 S
  refine gp [[6,1,1],[3]] ?_; intro a S
  refine YK ?_
  refine qO S ?_
  refine ⟨Jb ?_, M.below⟩; grind [Fr.may]
 intro a h38 S
 refine gp [[2,1],[5,1,1],[3]] ?_; intro a S
 refine YK ?_
 refine qO S ?_
 refine ⟨Jb ?_, M.below⟩; grind [Fr.may]
def Fr.same (f g : Fr) (bs cs : List UInt8) : Bool := f.seq == g.seq && f.inc == g.inc && f.part == g.part && f.of == g.of && f.mark == g.mark && bs == cs
section
variable {fs : List (Fr × List UInt8)} {bs : List UInt8} {cs : List Value} {lo hi : Nat} {v : Value} {w w' : World}
def FrsC (cs : List Value) (lo hi : Nat) (w : World) (v : Value) (fs : List (Fr × List UInt8)) : Prop :=
 Rd lo hi w 6 v fs.length cs ∧ ∀ i f bs, fs[i]? = some (f, bs) → ∃ lv, (cs.drop (i * 6)).take 6 = f.cells lv ∧ Bs lo hi w lv bs
def Frs (lo hi : Nat) (w : World) (v : Value) (fs : List (Fr × List UInt8)) : Prop := ∃ cs, FrsC cs lo hi w v fs
theorem FrsC.same (h : FrsC cs lo hi w v fs) (hs : SameOn lo hi w w') : FrsC cs lo hi w' v fs :=
 ⟨h.1.same hs, fun i f bs hi => let ⟨lv, e, hb⟩ := h.2 i f bs hi; ⟨lv, e, hb.same hs⟩⟩
theorem FrsC.row {i : Nat} {lv : Value} {f : Fr} (h : FrsC cs lo hi w v fs) (hi' : fs[i]? = some (f, bs)) (hr : (cs.drop (i * 6)).take 6 = f.cells lv) : CellsAt w (adr v).block ((adr v).off + i * 6) (f.cells lv) ∧ Bs lo hi w lv bs := by
 obtain ⟨lv', e, hb⟩ := h.2 i f bs hi'
 have : lv' = lv := by
  grind
 subst this
 exact ⟨h.1.at_.row e rfl, hb⟩
def nOf (n : Nat) : Nat := (n + 44) / 45
def Qj (bs : List UInt8) (seq inc : Int) (i : Nat) : Fr × List UInt8 := (⟨seq + i, inc, i, (nOf bs.length : Nat), jv bs⟩, (bs.drop (i * 45)).take 45)
def V1 (bs : List UInt8) (seq inc : Int) : List (Fr × List UInt8) := (List.range (nOf bs.length)).map (Qj bs seq inc)
def Yn (bs : List UInt8) (seq inc : Int) : Prop := bs ≠ [] ∧ (1 ≤ seq ∧ seq ≤ 1099511627776) ∧ (0 ≤ inc ∧ inc ≤ 1048576) ∧ bs.length ≤ 90 ∧ seq + (nOf bs.length : Nat) - 1 ≤ 1099511627776
open Classical in
noncomputable def zB (bs : List UInt8) (seq inc : Int) : Int :=
 if Yn bs seq inc then 0 else if bs ≠ [] ∧ (1 ≤ seq ∧ seq ≤ 1099511627776) ∧ (0 ≤ inc ∧ inc ≤ 1048576) ∧ 90 < bs.length then 3 else 2
open Classical in
noncomputable def Qq (bs : List UInt8) (seq inc : Int) : List (Fr × List UInt8) := if Yn bs seq inc then V1 bs seq inc else []
def Ja8 (bs : List UInt8) (seq inc : Int) (w : World) (e : Ending) (w' : World) : Prop :=
 ∃ v', e = .returned (.tuple #[v', .int .i64 (zB bs seq inc)]) ∧ Below w.heap.size w w' ∧ Frs w.heap.size w'.heap.size w' v' (Qq bs seq inc)
theorem j8 {seq inc : Int} {H : List Ent} {x : Int} (M : Mem w w' H) (h : ¬ Yn bs seq inc) (hx : x = zB bs seq inc) : Ja8 bs seq inc w (.returned (.tuple #[.slice none 0 0, .int .i64 x])) w' :=
 ⟨_, by rw [hx], M.below, [], by unfold Qq; rw [if_neg h]; exact ⟨Rd.nil _ _ _ _, fun i f bs hi => by grind⟩⟩
theorem Mem.pushFrs {w0 : World} {H : List Ent} (M : Mem w0 w H) (hb : Below w.heap.size w w') (h : FrsC cs w.heap.size w'.heap.size w' v fs) : ∃ lo hi, w.heap.size ≤ lo ∧ Mem w0 w' (.own lo hi (fun w => FrsC cs lo hi w v fs) :: H) :=
 ⟨_, _, Nat.le_refl _, M.push hb (.own w.heap.size w'.heap.size fun x => FrsC cs w.heap.size w'.heap.size x v fs) (fun _ hs => h.same hs) (Nat.le_refl _) (Nat.le_refl _)⟩
def Dh (lo hi : Nat) (bs : List UInt8) (lvs : List Value) (w : World) : Prop := ∀ i lv, lvs[i]? = some lv → Bs lo hi w lv ((bs.drop (i * 45)).take 45)
theorem JbI {w0 : World} {lo' hi' b n : Nat} {lvs : List Value} {lv : Value} {c : Array Value} {t e : TypeId} (M : Mem w0 w [Jd lo' hi' e 1 lv n (Jh ((bs.drop (lvs.length * 45)).take 45)), .own lo hi (Dh lo hi bs lvs), .blk b c t])
 (hn : ((bs.drop (lvs.length * 45)).take 45).length = n) (hb : b < lo) (h1 : lo ≤ hi) (h2 : hi ≤ lo') : Mem w0 w [.own lo w.heap.size (Dh lo w.heap.size bs (lvs ++ [lv])), .blk b c t] := by
 have f0 := M.fits _ (List.mem_of_getElem? (show _[0]? = _ from rfl))
 have f1 := M.fits _ (List.mem_of_getElem? (show _[1]? = _ from rfl))
 simp only [Jd, Ent.lo, Ent.hi] at f0 f1
 refine M.merge lo w.heap.size _ f1.1 (Nat.le_refl _) (fun f hf => ?_) (fun w' hs => ?_)
 ·grind [Ent.hi]
 ·intro i x hx
  rcases Nat.lt_or_ge i lvs.length with hi' | hi'
  ·rw [List.getElem?_append_left hi'] at hx
   exact (M.ownAll 1 rfl w' (hs.sub (Nat.le_refl _) f1.2) i x hx).wide (Nat.le_refl _) f1.2
  ·have : i = lvs.length := by
    grind
   subst this
   rw [List.getElem?_append_right (Nat.le_refl _)] at hx
   simp at hx
   subst hx
   obtain ⟨h3, h4⟩ := M.ownAll 0 rfl w' (hs.sub o_ f0.2)
   have := Rd.of_row h3 h4 (by grind [maxLen])
   unfold Bs; rw [hn]
   exact this.wide o_ f0.2
theorem Jid (v : Value) (bs : List UInt8) (seq inc : Int) (w : World) (hv : Bs 0 w.heap.size w v bs) (hseq : -9223372036854775808 ≤ seq ∧ seq ≤ 9223372036854775807) : CT 265 #[v, .int .i64 seq, .int .i64 inc] w (Ja8 bs seq inc w) := by
 have M := Mem.start w
 have hl := hv.2.1
 unfold maxLen at hl
 have hcap := hv.cap
 refine qI Tryz.func265 79 ?_
 refine gq [[2,1,1],[5,1],[908,5],[0,1,1],[940,18]] ?_ ?_
 ·intro a h18 S
  refine gp [[0,0,0,0,1,1,0,0,0,1],[5,1,1],[4],[931]] ?_
  grind [j8, Yn, List.length_pos_iff, zB]
 intro a h18 S
 refine qG [1] S ?_; intro a S
 refine qK S rfl (yB _ _) M ?_; intro a w1 S hK M
 refine gq [[0,1,1,1],[940,23]] ?_ ?_
 ·intro a h23 S
  refine gp [[0,0,0,0,1],[5,1,1],[4],[931]] ?_
  grind [j8, Yn, zB]
 intro a h23 S
 refine qG [1] S ?_; intro a S
 refine qK S rfl (y8 _ _) M ?_; intro a w2 S hK M
 refine gq [[0,1,1],[2],[940,27]] ?_ ?_
 ·intro a h27 S
  refine gp [[3,1,1],[4],[931]] ?_
  exact j8 M (by unfold Yn; simp only [← List.length_pos_iff] at *; omega) (by unfold zB Yn; simp only [← List.length_pos_iff] at *; rw [if_neg o_, if_neg o_])
 intro a h27 S
 refine gq [[6,1],[908,5],[0,1],[2],[940,30]] ?_ ?_
 ·intro a h30 S
  refine gp [[3,1,1],[4],[931]] ?_
  exact j8 M (by unfold Yn; simp only [← List.length_pos_iff] at *; omega) (by unfold zB Yn; simp only [← List.length_pos_iff] at *; rw [if_neg o_, if_pos o_])
 intro a h30 S
 refine gp [[5,1],[908,5],[901],[901]] ?_; intro a S
 refine qY S (QB S rfl rfl o_) ?_
 refine gp [[0,1],[5,1,1],[901],[901]] ?_; intro a S
 refine qK S rfl (yB _ _) M ?_; intro a w3 S hK M
 refine gq [[0,1],[2],[940,41]] ?_ ?_
 ·intro a h41 S
  refine gp [[3,1,1],[4],[931]] ?_
  exact j8 M (by unfold Yn nOf; simp only [← List.length_pos_iff] at *; omega) (by unfold zB Yn nOf; simp only [← List.length_pos_iff] at *; rw [if_neg o_, if_neg o_])
 intro a h41 S
 refine gp [[5,1]] ?_; intro a S
 refine qK S rfl (U6 v bs _ (M.argW hv)) M ?_; intro a w4 S hK M
 refine gp [[0,1],[4]] ?_; intro a S
 have e8 : ((bs.length : Int) + 45 - 1) / 45 = ((nOf bs.length : Nat) : Int) := by unfold nOf; omega
 have hn2 : nOf bs.length ≤ 2 := by unfold nOf; omega
 rw [e8] at S
 have hok : Yn bs seq inc := by unfold Yn; rw [← List.length_pos_iff]; omega
 refine qY S (Vz S rfl) ?_; intro a S
 refine Z2 (e := 298) (sz := 6) (by_ := 64) (zc := Ex) S M rfl rfl k_ rfl rfl o_ o_ o_ o_ ?_; intro a w5 b1 S M hB
 try simp only [Int.toNat_natCast] at S M
 refine gp [[0,1],[5,1],[903,298],[0,1],[3]] ?_; intro a S
 refine Jc (fun m a w' => ∃ (k : Nat) (l : List Value) (lo hi : Nat) (lvs : List Value), k ≤ nOf bs.length ∧ m = nOf bs.length - k ∧ Jk 79 a [(0, v), (1, .int .i64 seq), (2, .int .i64 inc), (8, .int .i64 (nOf bs.length : Nat)), (9, .int .u32 ((jv bs).toNat : Int)), (10, .slice (some ⟨b1, 0, none⟩) (nOf bs.length) (nOf bs.length)), (47, .int .i64 (nOf bs.length : Nat)), (48, .int .i64 (k : Int))] ∧ Mem w w' [.own lo hi (Dh lo hi bs lvs), .blk b1 l.toArray 298] ∧ b1 < lo ∧ lo ≤ hi ∧ l.length = nOf bs.length * 6 ∧ lvs.length = k ∧ ∀ i lv, lvs[i]? = some lv → (l.drop (i * 6)).take 6 = (Qj bs seq inc i).1.cells lv) (nOf bs.length) ?_ ?_
 ·skip
  have f := (M.fits _ (List.mem_of_getElem? (show _[0]? = _ from rfl))).2
  simp only [Ent.hi] at f
  exact ⟨0, _, _, _, [], Nat.zero_le _, rfl, S.sub _ rfl, M.pushTriv (Dh _ _ bs []) (fun _ i lv h => by simp at h), f, Nat.le_refl _, by simp [Yz], rfl, fun i lv h => by simp at h⟩
 intro m a wl
 rintro ⟨k, l, lo, hi, lvs, hk, rfl, S, M, hb, hlh, hll, hlv, hrow⟩
 refine gq [[2,1],[3],[943,49]] ?_ ?_
 ·intro a h49 S
  refine gp [[8,1,1,1],[3],[931]] ?_
  obtain rfl : k = nOf bs.length := by omega
  have f0 := M.fits _ (List.mem_of_getElem? (show _[0]? = _ from rfl))
  have f1 := M.fits _ (List.mem_of_getElem? (show _[1]? = _ from rfl))
  simp only [Ent.lo, Ent.hi] at f0 f1
  refine ⟨_, by unfold zB; rw [if_pos hok], M.below, ?_⟩
  unfold Qq; rw [if_pos hok]
  have hlc : (V1 bs seq inc).length = nOf bs.length := by simp [V1]
  refine ⟨l, ?_, fun i f cs' hi' => ?_⟩
  ·rw [hlc]
   exact (Rd.of_blk (M.blk 1 rfl) hll (Nat.le_refl _) m_ (List.take_of_length_le (by simp; omega))).wide f1.1 f1.2
  ·have hlt := (List.getElem?_eq_some_iff.1 hi').1
   rw [hlc] at hlt
   simp only [V1, List.getElem?_map, List.getElem?_range hlt, Option.map_some, Option.some.injEq] at hi'
   obtain ⟨lv, hlv'⟩ : ∃ lv, lvs[i]? = some lv := ⟨_, List.getElem?_eq_getElem o_⟩
   refine ⟨lv, ?_, ?_⟩
   ·rw [hrow i lv hlv', hi']
   ·have := M.own 0 rfl i lv hlv'
    have e2 : (bs.drop (i * 45)).take 45 = cs' := congrArg Prod.snd hi'
    rw [← e2]
    exact this.wide f0.1 f0.2
 intro a h49 S
 refine gp [[7,1,1],[4]] ?_; intro a S
 have hk' : k < nOf bs.length := by omega
 have hkn : k * 45 < bs.length := by unfold nOf at hk'; omega
 refine qY S (Vz S rfl) ?_
 refine gp [[901],[0,1],[901],[901],[0,1],[908,5]] ?_; intro a S
 refine qY S (Jjn S rfl rfl) ?_
 refine gp [[0,1,1],[4,1,1,1,1]] ?_; intro a S
 refine qY S (JcO (e := 5) (sz := 1) S k_ rfl (M.arg hv) rfl rfl rfl o_) ?_; intro a S
 have hB := (M.argW hv).cutB (i := ((k : Int) * 45).toNat) (j := (min (((k : Int) + 1) * 45) (bs.length : Int)).toNat) (mx := (min (((k : Int) + 1) * 45) (bs.length : Int)).toNat) o_ o_ o_ o_
 have eB : (bs.drop ((k : Int) * 45).toNat).take ((min (((k : Int) + 1) * 45) (bs.length : Int)).toNat - ((k : Int) * 45).toNat) = (bs.drop (k * 45)).take 45 := by
  rw [show ((k : Int) * 45).toNat = k * 45 by omega]
  rcases Nat.le_total ((k + 1) * 45) bs.length with h | h
  ·congr 1; omega
  ·rw [List.take_of_length_le (by simp; omega), List.take_of_length_le (by simp; omega)]
 rw [eB] at hB
 have hfit := (M.fits _ (List.mem_of_getElem? (show _[0]? = _ from rfl))).2
 simp only [Ent.hi] at hfit
 refine qD S rfl (JeP _ _ _ hB (by simp; omega)) ?_
 rintro _ w6 ⟨lv, rfl, hF⟩; refine rv_ ?_; intro a S
 obtain ⟨adL, capL, hlvE, -, -⟩ := (hF.rd (by simp [maxLen]; omega)).form
 obtain ⟨lo', hi', hlo', M⟩ := M.pushFresh hF
 subst hlvE
 refine gp [[0,1],[3,1,1,1,1],[901],[0,1,1,1,1,1]] ?_; intro a S
 refine qB_ Jcg Ex S ?_; intro a S
 refine qY S (yx (e := 298) (sz := 6) S k_ rfl rfl o_) ?_; intro a S
 replace S := S.n_
 refine Ju (sz := 6) (us := [_, _, _, _, _, _]) S M 2 rfl k_ rfl rfl rfl rfl rfl rfl (by simp; omega) ?_; intro w7 M
 replace M := M.s_
 refine gp [[4],[901],[0,1],[2]] ?_; intro a S
 subst hlv
 have M2 := JbI M rfl hb hlh o_
 have hle : lvs.length * 6 + 6 ≤ l.length := by omega
 refine ⟨nOf bs.length - (lvs.length + 1), by omega, lvs.length + 1, _, lo, _, _, by omega, rfl, S.sub _ rfl, M2, hb, ?_, by rw [Vu]; exact hll, by simp, ?_⟩
 ·have f := (M.fits _ (List.mem_of_getElem? (show _[1]? = _ from rfl))); simp only [Ent.hi, Ent.lo] at f; omega
 ·intro i lv hi'
  rcases Nat.lt_or_ge i lvs.length with h | h
  ·rw [List.getElem?_append_left h] at hi'
   rw [zY (by simpa using hle) o_]
   exact hrow i lv hi'
  ·have : i = lvs.length := by
    have := (List.getElem?_eq_some_iff.1 hi').1
    simp at this; omega
   subst this
   rw [List.getElem?_append_right (Nat.le_refl _)] at hi'
   simp only [Nat.sub_self, List.getElem?_cons_zero, Option.some.injEq] at hi'
   subst hi'
   exact JdN (us := [_, _, _, _, _, _]) hle
end
section
def D0 (fs : List (Fr × List UInt8)) : List UInt8 := fs.flatMap (·.2)
def Ua (fs : List (Fr × List UInt8)) : Prop :=
 ∃ f bs r, fs = (f, bs) :: r ∧ fs.length ≤ 2 ∧ (∀ x ∈ fs, x.1.may x.2.length = true) ∧ Yn (D0 fs) f.seq f.inc ∧ V1 (D0 fs) f.seq f.inc = fs
open Classical in
noncomputable def Jjv (fs : List (Fr × List UInt8)) : Int := if Ua fs then 0 else 40
def Jkf (fs : List (Fr × List UInt8)) (w : World) (e : Ending) (w' : World) : Prop :=
 ∃ v', e = .returned (.tuple #[v', .int .i64 (Jjv fs)]) ∧ Below w.heap.size w w' ∧ (Ua fs → Fresh w w' 5 1 v' (D0 fs).length (Jh (D0 fs))) ∧ (¬ Ua fs → v' = .slice none 0 0)
end
def j7 (f : Fr) (l : Nat) : List (Int × Nat) := [(f.seq, 6), (f.inc, 3), (16 * f.part + f.of, 1), ((l : Int), 1), ((f.mark.toNat : Int), 4)]
def yd (f : Fr) (l : Nat) (k : Nat) : List UInt8 := ((j7 f l).take k).flatMap fun x => leB x.1 x.2
def zp (ld : List UInt8) : List UInt8 := ld ++ List.replicate (45 - ld.length) 0
def Zd (f : Fr) (ld : List UInt8) : List UInt8 := VQ (yd f ld.length 5 ++ zp ld)
def Jjc (f : Fr) (l : Nat) : List Value := [.int .i64 f.seq, .int .i64 6, .int .i64 f.inc, .int .i64 3, .int .i64 (16 * f.part + f.of), .int .i64 1, .int .i64 (l : Int), .int .i64 1, .int .i64 (f.mark.toNat : Int), .int .i64 4]
def Xy (f : Fr) (ld : List UInt8) (w : World) (e : Ending) (w' : World) : Prop :=
 ∃ v', e = .returned (.tuple #[v', .int .i64 (if f.may ld.length then 0 else 2)]) ∧ Below w.heap.size w w' ∧ (f.may ld.length = true → Fresh w w' 5 1 v' (Zd f ld).length (Jh (Zd f ld))) ∧ (f.may ld.length = false → v' = .slice none 0 0)
theorem JdU (ld : List UInt8) : (List.replicate 45 (Value.int .u8 0)).take 0 ++ Jh ld ++ (List.replicate 45 (Value.int .u8 0)).drop (0 + ld.length) = Jh (zp ld) := by
 grind [zp, Jh, List.map_replicate]
theorem jl {ld : List UInt8} (h : ld.length ≤ 45) : (zp ld).length = 45 := by grind [zp]
theorem JeC (f : Fr) (l k : Nat) (h : k < 5) : ∃ x, (j7 f l)[k]? = some x ∧ Vs (Jjc f l) (k * 2) 2 = some [.int .i64 x.1, .int .i64 (x.2 : Int)] := by
 match k, h with
 | 0, _ => exact ⟨_, rfl, rfl⟩
 | 1, _ => exact ⟨_, rfl, rfl⟩
 | 2, _ => exact ⟨_, rfl, rfl⟩
 | 3, _ => exact ⟨_, rfl, rfl⟩
 | 4, _ => exact ⟨_, rfl, rfl⟩
theorem JeB {f : Fr} {l k : Nat} {x : Int × Nat} (hm : f.may l = true) (h : (j7 f l)[k]? = some x) : VR x.1 (x.2 : Int) := by
 simp only [Fr.may, decide_eq_true_eq] at hm
 have hmk := f.mark.isLt
 grind [j7, VR]
theorem JeA {f : Fr} {l k : Nat} {x : Int × Nat} (h : (j7 f l)[k]? = some x) : yd f l (k + 1) = yd f l k ++ leB x.1 x.2 := by
 grind [yd, List.take_succ_eq_append_getElem]
theorem Eq (f : Fr) (l k : Nat) : (yd f l k).length ≤ 15 := by
 unfold yd
 match k with
 | 0 => simp
 | 1 => simp [j7, Jl]
 | 2 => simp [j7, Jl]
 | 3 => simp [j7, Jl]
 | 4 => simp [j7, Jl]
 | k + 5 => simp [j7, Jl]
set_option maxHeartbeats 1000000 in
theorem JeS (f : Fr) (lv : Value) (ld : List UInt8) (w : World) (hv : Bs 0 w.heap.size w lv ld) : CT 300 #[.agg (f.cells lv).toArray] w (Xy f ld w) := by
 obtain ⟨ad, cap, rfl, -, -⟩ := hv.form
 have M := Mem.start w
 refine qI Tryz.func300 59 ?_; intro a S
 refine nxD (qW_ S M ?_); intro a w1 b1 S M hB
 refine gp [[0,1,1],[5],[902,0,6]] ?_; intro a S
 refine qK S rfl (JfU f ad ld.length cap _) M ?_; intro a w2 S hK M
 refine qG [1] S ?_; intro a S
 refine nxC (Js (t := 13) S rfl ?_ ?_)
 ·intro h13 S
  refine gp [[3,1,1],[4],[931]] ?_
  have hm : f.may ld.length = false := by grind
  exact ⟨_, by grind, M.below, fun h => absurd h (by grind), fun _ => rfl⟩
 intro h13 S
 refine gp [[5]] ?_; intro a S
 have hm : f.may ld.length = true := by grind
 have hm' := hm
 simp only [Fr.may, decide_eq_true_eq] at hm'
 refine qN S M #[.int .u8 0, .int .u8 0, .int .u8 0, .int .u8 0, .int .u8 0, .int .u8 0, .int .u8 0, .int .u8 0, .int .u8 0, .int .u8 0, .int .u8 0, .int .u8 0, .int .u8 0, .int .u8 0, .int .u8 0, .int .u8 0, .int .u8 0, .int .u8 0, .int .u8 0, .int .u8 0, .int .u8 0, .int .u8 0, .int .u8 0, .int .u8 0, .int .u8 0, .int .u8 0, .int .u8 0, .int .u8 0, .int .u8 0, .int .u8 0, .int .u8 0, .int .u8 0, .int .u8 0, .int .u8 0, .int .u8 0, .int .u8 0, .int .u8 0, .int .u8 0, .int .u8 0, .int .u8 0, .int .u8 0, .int .u8 0, .int .u8 0, .int .u8 0, .int .u8 0] ?_; intro a w3 b2 S M hB
 refine go [[3],[910,3]] ?_; intro a w4 S M
 refine Jj 0 S rfl (fun w => ZH (m := 45) (sz := 1) S k_ rfl) ?_
 refine gp [[911,1,6,2]] ?_; intro a S
 refine k1_ 3 ?_
 refine Kt (e := 5) (us := Jh ld) S M 0 rfl rfl k_ rfl rfl rfl (M.arg hv) (List.take_of_length_le (by grind [Jh])) (JA _) (by simp [Jh]; omega) ?_; intro a w5 S M
 replace M := M.s_
 refine kn_ ?_
 refine gp [[911,4,1],[4]] ?_; intro a S
 rw [Jw] at S M
 have M0 := M
 replace M : Mem w w5 [.blk b2 (Jh (zp ld)).toArray 398, .blk b1 (f.cells (.slice ad ld.length cap)).toArray 298] := by rw [← JdU]; exact M0
 clear M0
 refine Z2 (e := 5) (sz := 1) (by_ := 1) (zc := Ym) S M rfl rfl k_ rfl rfl o_ o_ o_ o_ ?_; intro a w6 b3 S M hB
 try simp only [Int.reduceToNat, Nat.reduceMul] at S M
 refine gp [[0,1],[5]] ?_; intro a S
 replace M := M.toRow (sz := 1) (m := 0) (cap := 60) (xs := []) 0 rfl rfl o_ (by grind [maxLen]) (by simp [Yz]) (by simp)
 have hmk := f.mark.isLt
 refine qY S (VH (k := 0) S k_ rfl) ?_
 refine gp [[0,3]] ?_; intro a S
 refine qB_ VD VW S ?_
 refine gp [[0,2,3]] ?_; intro a S
 refine qB_ VD VW S ?_
 refine gp [[0,3,3],[901],[0,4,3],[901]] ?_; intro a S
 refine qB_ VD VW S ?_
 refine gp [[0,1]] ?_; intro a S
 refine qB_ VD VW S ?_
 refine gp [[0,5,3]] ?_; intro a S
 (refine qY S (zG S rfl k_ k_ o_) ?_); intro a S
 refine qB_ VD VW S ?_; intro a S
 refine qY S (V5 (ps := [(0, .tmp 21), (1, .tmp 24), (2, .tmp 31), (3, .tmp 33), (4, .tmp 37)]) (sz := 2) (z := Ji5) (cs := [_, _, _, _, _, _, _, _, _, _]) S k_ rfl rfl) ?_
 refine gp [[0,1],[3]] ?_; intro a S
 refine Jc (fun m a w' => ∃ (k lo hi : Nat) (v' : Value), k ≤ 5 ∧ m = 5 - k ∧ Jk 59 a [(4, p_ b2), (6, v'), (38, .agg (Jjc f ld.length).toArray), (39, .int .i64 (k : Int))] ∧ Mem w w' [Jd lo hi 5 1 v' (yd f ld.length k).length (Jh (yd f ld.length k)), .blk b2 (Jh (zp ld)).toArray 398]) (5) ?_ ?_
 ·skip
  exact ⟨0, _, _, _, Nat.zero_le _, rfl, S.sub _ rfl, M.drop 2⟩
 intro m a wl
 rintro ⟨k, lo, hi, v', hk, rfl, S, M⟩
 refine gq [[2,1],[3],[943,40]] ?_ ?_
 ·intro a h40 S
  refine gp [[8]] ?_; intro a S
  obtain rfl : k = 5 := by omega
  have hlen15 := Eq f ld.length 5
  refine qY S (Vz S rfl) ?_; intro a S
  refine qY S (ZH (m := 45) (sz := 1) S k_ rfl) ?_; intro a S
  have hp : Rd b2 (b2 + 1) wl 1 (.slice (some ⟨b2, 0, none⟩) 45 45) (zp ld).length (Jh (zp ld)) := by
   rw [jl o_]
   exact Rd.of_blk (M.blk 1 rfl) (by grind [Jw, jl]) (Nat.le_refl _) (by grind [maxLen]) (List.take_of_length_le (by grind [Jw, jl]))
  have hpl := jl (show ld.length ≤ 45 by omega)
  refine JI (e := 5) (sz := 1) (by_ := 1) (zc := Ym) S M 0 rfl rfl k_ rfl d_ rfl rfl rfl (hp) (JA _) o_ (by grind [maxLen]) ?_; intro a w10 vA loA hiA S M
  refine qD S rfl (K4 vA (yd f ld.length 5 ++ zp ld) _ (by have := (M.readRow 0 rfl (by grind [maxLen])).wide (Nat.zero_le _) (M.fits _ (List.mem_of_getElem? (show _[0]? = _ from rfl))).2; grind [Vv]) (by grind)) ?_
  rintro _ w11 ⟨v3, rfl, hF⟩; refine rv_ ?_; intro a S
  obtain ⟨lo3, hi3, -, M⟩ := M.pushFresh hF
  refine gp [[0,1,1],[3],[931]] ?_
  exact ⟨_, by grind, M.below, fun _ => M.fresh 0 rfl, fun h => absurd hm (by simp [h])⟩
 intro a h40 S
 refine gp [[7]] ?_; intro a S
 have hk5 : k < 5 := by omega
 obtain ⟨⟨xn, xk⟩, hx, hxc⟩ := JeC f ld.length k hk5
 have hfit := JeB hm hx
 have hlen15 := Eq f ld.length k
 refine qY S (Je6 (m := 5) (sz := 2) (k := 2) (es := [_, _]) S k_ (fun e he => by cases he.symm.trans (show _ = some (.array 5 399) by kernel_rfl); kernel_rfl) rfl rfl o_ (hxc)) ?_; intro a S
 refine qN S M Zy ?_; intro a w7 b4 S M hB
 refine go [[900,0],[4,1,1,1,2,1]] ?_; intro a w8 S M
 refine qD S rfl (We v' (yd f ld.length k) xn (xk : Int) _ ((M.readRow 1 rfl (by grind [maxLen])).wide (Nat.zero_le _) (M.fits _ (List.mem_of_getElem? (show _[1]? = _ from rfl))).2) o_) ?_
 rintro _ w9 ⟨v2, rfl, hK, hF, -⟩; refine rv_ ?_; intro a S
 replace hF := hF hfit
 obtain ⟨lo2, hi2, -, M⟩ := M.pushFresh hF
 rw [show zZ xn (xk : Int) = 0 from by grind [zZ]] at S
 refine gp [[0,1,1,1,1,1],[5,1,1],[2],[941,52],[4,1,1],[4],[901],[0,1],[2]] ?_; intro a S
 replace M := (M.drp 1).drp 1
 refine ⟨5 - (k + 1), by omega, k + 1, lo2, hi2, v2, by omega, rfl, S.sub _ rfl, ?_⟩
 grind [JeA]
section
def Jgd (x : List UInt8) : Fr := ⟨jB x 0 6, jB x 6 3, jB x 9 1 / 16, jB x 9 1 % 16, BitVec.ofInt 32 (jB x 11 4)⟩
def JfV (x : List UInt8) : List UInt8 := (x.drop 15).take (jB x 10 1).toNat
open Classical in
noncomputable def yl (bs : List UInt8) : Option (Fr × List UInt8) :=
 if bs.length = 64 ∧ Yj bs ∧ jB (bs.take 60) 10 1 ≤ 45 ∧ (Jgd (bs.take 60)).may (JfV (bs.take 60)).length = true ∧ Zd (Jgd (bs.take 60)) (JfV (bs.take 60)) = bs then some (Jgd (bs.take 60), JfV (bs.take 60)) else none
def JcL : Fr := ⟨0, 0, 0, 0, 0#32⟩
theorem Er (f : Fr) (l : Nat) : (yd f l 5).length = 15 := by simp [yd, j7, Jl]
theorem XH {f : Fr} {ld : List UInt8} (h : f.may ld.length = true) : (Zd f ld).length = 64 := by
 grind [Fr.may, Zd, VQ, Er, jl, Y4]
def Jke (bs : List UInt8) (w : World) (e : Ending) (w' : World) : Prop :=
 ∃ f lv E, e = .returned (.tuple #[.agg (Fr.cells f lv).toArray, .int .i64 E]) ∧ Below w.heap.size w w' ∧ (∀ g ld, yl bs = some (g, ld) → f = g ∧ E = 0 ∧ Fresh w w' 5 1 lv ld.length (Jh ld)) ∧ (yl bs = none → f = JcL ∧ lv = .slice none 0 0 ∧ E = 40)
end



def wk0 : List UInt8 := List.replicate 85 0
def wkF : List (Fr × List UInt8) := [(⟨7, 1, 0, 2, jv wk0⟩, List.replicate 45 0), (⟨8, 1, 1, 2, jv wk0⟩, List.replicate 40 0)]
noncomputable def rdF (bs : List UInt8) : Fr := match yl bs with | some x => x.1 | none => JcL
noncomputable def rdL (bs : List UInt8) : List UInt8 := match yl bs with | some x => x.2 | none => []
noncomputable def rdE (bs : List UInt8) : Int := match yl bs with | some _ => 0 | none => 40
theorem JeR {f : Fr} {ld : List UInt8} {w0 w w' : World} {H : List Ent} {e : Ending} (M : Mem w0 w H) (h : Xy f ld w e w') :
 ∃ (v : Value) (lo hi : Nat), e = .returned (.tuple #[v, .int .i64 (if f.may ld.length then 0 else 2)]) ∧ Below w.heap.size w w' ∧ Mem w0 w' (Jd lo hi 5 1 v (ifL (f.may ld.length = true) (Zd f ld)).length (Jh (ifL (f.may ld.length = true) (Zd f ld))) :: H) := by
 obtain ⟨v', rfl, hb, h1, h2⟩ := h
 obtain ⟨lo, hi, -, M⟩ := M.pushFresh (En hb h1 (fun h => h2 (by grind)))
 grind
section
variable {seq inc : Int} {bs : List UInt8}
theorem Xr : zB bs seq inc = 0 ↔ Yn bs seq inc := by
 grind [zB]
theorem Jgt (h : Yn bs seq inc) {i : Nat} (hi : i < nOf bs.length) : (Qq bs seq inc)[i]? = some (Qj bs seq inc i) := by
 grind [Qq, V1]
theorem Jgc (h : Yn bs seq inc) {i : Nat} (hi : i < nOf bs.length) : (Qj bs seq inc i).1.may (Qj bs seq inc i).2.length = true := by
 obtain ⟨h1, h2, h3, h4, h5⟩ := h
 grind [nOf, Fr.may, Qj]
end
theorem mid {α : Type} (A B C : List α) {i n : Nat} (hi : A.length = i) (hn : B.length = n) : ((A ++ B ++ C).drop i).take n = B := by
 grind
end Go.Proofs.YtocppoflhllelaaGreat
