/-
  What PartStrict rests on, part 27.
-/
import Derived.Test.YtocppoflhllelaaGreatP23
namespace Go.Proofs.YtocppoflhllelaaGreat
open Go.RowKit Go.Sort
section
variable {h : List V8} {ps : Pl} {x : Su}
def yf (q : Pr × List Wr) : List UInt8 := (jd q.1).enc q.2
def Za (q : Pr × List Wr) : Prop := (jd q.1).may q.2 = true
def VS (q : Pr × List Wr) : Nat := nOf (yf q).length
def wtP (ps : Pl) : Nat := (ps.map VS).sum
theorem yu {q : Pr × List Wr} (h : Za q) : 1 ≤ VS q ∧ VS q ≤ 2 := by
 have := Zc h
 grind [VS, nOf, yf]
theorem GT {r : Rc} {x : List Wr} (h : r.may x = true) : QR r x = ((nOf (r.enc x).length : Nat) : Int) := by
 grind [QR, nOf]
theorem Z0 (a b : Pl) : wtP (a ++ b) = wtP a + wtP b := by grind [wtP]
theorem Dp (a : Pl) (q : Pr × List Wr) : wtP (a ++ [q]) = wtP a + VS q := by grind [wtP]
theorem vk {k : Nat} {q : Pr × List Wr} (h : ps[k]? = some q) : wtP (ps.take (k + 1)) = wtP (ps.take k) + VS q := by
 rw [zR h, Dp]
theorem Dq (ps : Pl) (h : ∀ q ∈ ps, Za q) : wtP ps ≤ ps.length * 2 := by
 induction ps with
 | nil => simp [wtP]
 | cons q ps ih =>
   grind [yu, wtP]
theorem Jbg (s : St) (hs : s.ok) (dv : Value) (cs : List Value) (ps : Pl) (w : World) (hd : PrsC cs 0 w.heap.size w dv ps) (hps : ps.length ≤ 10000) (hm : ∀ q ∈ ps, Za q) : CQ 268 #[.agg (s.cellsL dv).toArray] w (.int .i64 (wtP ps : Nat)) := by
 have M := Mem.start w
 refine qI Tryz.func268 26 ?_; intro a S
 refine nxD (VA S M rfl rfl rfl _ rfl ?_); intro a w1 bF S M hB
 refine gp [[0,1],[4,1],[5,272]] ?_; intro a S
 refine qY S (Jf S k_ rfl (M.cell 0 rfl (St.doubt hs dv))) ?_; intro a S
 refine qY S (Ys (E := 57) S rfl ((M.prs hd).1) k_) ?_
 refine gp [[0,1],[3]] ?_; intro a S
 refine Jc (fun m a w' => ∃ (k : Nat), k ≤ ps.length ∧ m = ps.length - k ∧ Jk 26 a [(3, .int .i64 ((wtP (ps.take k) : Nat) : Int)), (9, dv), (10, .int .i64 (ps.length : Int)), (11, .int .i64 (k : Int))] ∧ Mem w w' []) (ps.length) ?_ ?_
 ·skip
  replace M := M.drp 0
  exact ⟨0, Nat.zero_le _, rfl, S.sub _ rfl, M⟩
 intro m a wl
 rintro ⟨k, hk, rfl, S, M⟩
 refine gq [[2,1],[3],[943,12]] ?_ ?_
 ·intro a h12 S
  refine gp [[8,1,1],[3],[930]] ?_
  obtain rfl : k = ps.length := by omega
  exact ⟨by grind, M.below⟩
 intro a h12 S
 refine gp [[7]] ?_; intro a S
 have hk' : k < ps.length := by omega
 obtain ⟨q, hq⟩ : ∃ q, ps[k]? = some q := ⟨_, List.getElem?_eq_getElem hk'⟩
 obtain ⟨ad, cp, hrow, hws⟩ := hd.sl hq
 have hmq := hm q (List.mem_of_getElem? hq)
 have hwl := Dq (ps.take k) fun p hp => hm p (List.mem_of_mem_take hp)
 rw [List.length_take] at hwl
 have hsq := yu hmq
 refine qY S (qX 57 6 S ((M.prs hd).1)) ?_; intro a S
 replace S := S.n_
 refine qY S (Ja S k_ rfl rfl ((M.prs hd).1.at_.row (i := k) hrow rfl)) ?_; intro a S
 refine qN S M zz ?_; intro a w2 bP S M hB
 refine go [[900,0],[4],[902,0,6]] ?_; intro a w3 S M
 refine qK S rfl (KP q.1 ad q.2.length cp _) M ?_; intro a w4 S hK M
 refine qK S rfl (yC (jd q.1) ad q.2.length cp q.2 _ (by show (0 : Int) ≤ _; omega) (M.argW hws)) M ?_; intro a w5 S hK M
 rw [GT hmq, if_pos (show (jd q.1).may q.2 = true from hmq), show nOf ((jd q.1).enc q.2).length = VS q from rfl] at S
 refine gp [[0,1,1,1,1,1],[3,1,1],[901],[0,1],[4],[901],[0,1],[2]] ?_; intro a S
 replace M := M.drp 0
 refine ⟨ps.length - (k + 1), by omega, k + 1, by omega, rfl, ?_, M⟩
 rw [vk hq, Int.natCast_add]; exact S.sub _ rfl
/-! ### the steps, plainly -/
def sv1 (h : List V8) (ps : Pl) (x : Su) (j : Nat) (p : DS × Int) : DS × Int :=
 if j < 8 then (p.1.write (26 + (j : Int)) (VF (KA ((h.drop (j * 4)).take 4))), p.2)
 else if j = 8 then (p.1.flush, p.2)
 else match ps[j - 9]? with
  | some q => (jc p.1 (V1 (yf q) p.2 x.inc), p.2 + (VS q : Nat))
  | none => if j = 10 + ps.length then (p.1.write (x.gen % 2) (VN x), p.2) else (p.1.flush, p.2)
def sv (h : List V8) (ps : Pl) (x : Su) : Nat → DS × Int → DS × Int
 | 0, p => p
 | j + 1, p => sv1 h ps x j (sv h ps x j p)
theorem Jhs {j : Nat} {p : DS × Int} (hj : j < 8) : sv1 h ps x j p = (p.1.write (26 + (j : Int)) (VF (KA ((h.drop (j * 4)).take 4))), p.2) := by grind [sv1]
theorem Jc2 {j : Nat} {p : DS × Int} (hj : j = 8 ∨ j = 9 + ps.length ∨ 10 + ps.length < j) : sv1 h ps x j p = (p.1.flush, p.2) := by
 grind [sv1]
theorem Jht {i : Nat} {q : Pr × List Wr} {p : DS × Int} (hq : ps[i]? = some q) : sv1 h ps x (9 + i) p = (jc p.1 (V1 (yf q) p.2 x.inc), p.2 + (VS q : Nat)) := by
 grind [sv1]
theorem Jhr {p : DS × Int} : sv1 h ps x (10 + ps.length) p = (p.1.write (x.gen % 2) (VN x), p.2) := by
 grind [sv1]
theorem Jfg (h : List V8) (ps : Pl) (x : Su) (j : Nat) (p : DS × Int) : (sv1 h ps x j p).1.down = p.1.down := by
 unfold sv1; split
 ·rfl
 ·split
  ·rfl
  ·split
   ·exact vO _ _
   ·split <;> rfl
theorem U4 (h : List V8) (ps : Pl) (x : Su) (p : DS × Int) : ∀ j, (sv h ps x j p).1.down = p.1.down
 | 0 => rfl
 | j + 1 => by rw [sv, Jfg, U4 h ps x p j]
theorem Jc3 (h : List V8) (x : Su) (j : Nat) (p : DS × Int) (hm : ∀ q ∈ ps, Za q) {c : Nat} (hc : ∀ k, (p.1.cache k).length ≤ c) : ∀ k, ((sv1 h ps x j p).1.cache k).length ≤ c + 2 := by
 intro k
 unfold sv1; split
 ·have := Yp (k := 26 + (j : Int)) (bs := VF (KA ((h.drop (j * 4)).take 4))) hc k; grind
 ·split
  ·exact Nat.zero_le _
  ·split
   ·rename_i q hq
    have h1 := jp (V1 (yf q) p.2 x.inc) hc k
    rw [zA] at h1
    have := (yu (hm q (List.mem_of_getElem? hq))).2
    grind [VS]
   ·split
    ·have := Yp (k := x.gen % 2) (bs := VN x) hc k; grind
    ·exact Nat.zero_le _
theorem Dy (h : List V8) {ps : Pl} (x : Su) (p : DS × Int) (hm : ∀ q ∈ ps, Za q) {c : Nat} (hc : ∀ k, (p.1.cache k).length ≤ c) : ∀ j k, ((sv h ps x j p).1.cache k).length ≤ c + 2 * j
 | 0, k => hc k
 | j + 1, k => by
   have := Jc3 h x j (sv h ps x j p) hm (Dy h x p hm hc j) k
   grind [sv]
theorem Dx (h : List V8) (ps : Pl) (x : Su) (p : DS × Int) : ∀ j, (sv h ps x j p).2 = p.2 + (wtP (ps.take (j - 9)) : Nat)
 | 0 => by simp [sv, wtP]
 | j + 1 => by
   have ih := Dx h ps x p j
   rw [sv]
   rcases Nat.lt_or_ge j 9 with h9 | h9
   ·grind [sv1]
   ·obtain ⟨i, rfl⟩ : ∃ i, j = 9 + i := ⟨j - 9, by omega⟩
    grind [vk, sv1, List.take_of_length_le]
/-! ### a store's cells -/
def stX (x : Su) (a b : Int) (h : List V8) (n : Int) : St := stG x x.owned a b h n
theorem J4 (x : Su) (a b : Int) (n : Int) (hh : h.length = 32) : (stX x a b h n).ok := Jiu x x.owned a b n hh
abbrev stB (b : Nat) (x : Su) (a n : Int) (h : List V8) (k : Int) (dv : Value) : Ent := .blk b ((stX x a n h k).cellsL dv).toArray 99
theorem JaH (x : Su) (a b : Int) (h : List V8) (n : Int) (dv : Value) : Vs ((stX x a b h n).cellsL dv).toArray.toList 13 2 = some [.int .i64 a, .int .i64 b] :=
 jF [.int .i64 x.gen, .int .i64 x.tail, .int .i64 x.owned, .int .i64 x.inc, .int .i64 x.bound, .int .i64 x.m0, .int .i64 x.m1, .int .i64 x.m2, .int .i64 x.m3, .int .i64 x.m4, .int .i64 x.m5, .int .i64 x.m6, .int .i64 x.m7] [.int .i64 a, .int .i64 b] (Jo h ++ [dv, .int .i64 n])
theorem Jhy (x : Su) (a b : Int) (h : List V8) (n : Int) (dv : Value) : ((stX x a b h n).cellsL dv).toArray[3]? = some (.int .i64 x.inc) := rfl
theorem Jhx (x : Su) (a b : Int) (h : List V8) (n : Int) (dv : Value) : ((stX x a b h n).cellsL dv).toArray[14]? = some (.int .i64 b) := rfl
theorem Jit (x : Su) (a b : Int) (h : List V8) (n : Int) (dv : Value) : ((stX x a b h n).cellsL dv).toArray[1]? = some (.int .i64 x.tail) := rfl
theorem Jhz (x : Su) (a b : Int) (h : List V8) (n : Int) (dv : Value) : ((stX x a b h n).cellsL dv).toArray[0]? = some (.int .i64 x.gen) := rfl
theorem Jhw (x : Su) (a b : Int) (h : List V8) (n : Int) (dv : Value) : Vs ((stX x a b h n).cellsL dv).toArray.toList 0 13 = some x.cellsL := jF [] x.cellsL ([.int .i64 a, .int .i64 b] ++ (Jo h ++ [dv, .int .i64 n]))
theorem Jbl (x : Su) (a b a' b' : Int) (h : List V8) (n : Int) (dv : Value) : (((stX x a b h n).cellsL dv).set 13 (.int .i64 a')).set 14 (.int .i64 b') = (stX x a' b' h n).cellsL dv := rfl
set_option maxHeartbeats 1000000 in
theorem Jde {wc w : World} {A E : List Ent} {b bd : Nat} {S0 : DS} (hE : DkE bd S0 E) (M : Mem wc w (.blk b #[p_ bd] 75 :: (A ++ E))) (hup : S0.down = false) (hw : ∀ k, (S0.cache k).length ≤ 1000000) :
 CT 318 #[p_ b] w fun e w' => e = .returned (.int .i64 0) ∧ ∃ E', DkE bd S0.flush E' ∧ Mem wc w' (.blk b #[p_ bd] 75 :: (A ++ E')) := by
 refine qI Tryz.func318 4 ?_
 refine gp [[2,1],[4,1]] ?_; intro a S
 refine qD S rfl (Ub (A := _ :: A) hE M hup hw) ?_
 rintro _ w1 ⟨rfl, E2, hE2, M1⟩; have M := M1; clear M1
 refine gp [[0,1],[3],[930]] ?_
 grind
end
section
variable {S0 : DS} {A E : List Ent} {b2 b3 bS bd : Nat} {wc w : World}
theorem JbW (a b : List V8) : Jo (a ++ b) = Jo a ++ Jo b := by simp [Jo]
theorem JhW {h : List V8} (hl : h.length = 32) {j : Nat} (hj : j < 8) : ∃ x0 x1 x2 x3, (h.drop (j * 4)).take 4 = [x0, x1, x2, x3] := by
 have e : ((h.drop (j * 4)).take 4).length = 4 := by grind
 match (h.drop (j * 4)).take 4, e with
 | [x0, x1, x2, x3], _ => grind
theorem Jfp (x : Su) (a b : Int) {h : List V8} (n : Int) (dv : Value) {j : Nat} (hl : h.length = 32) (hj : j < 8) : Vs ((stX x a b h n).cellsL dv).toArray.toList (15 + j * 32) 32 = some (Jo ((h.drop (j * 4)).take 4)) := by
 have e : (stX x a b h n).cellsL dv = ((stX x a b h n).pre ++ Jo (h.take (j * 4))) ++ (Jo ((h.drop (j * 4)).take 4) ++ (Jo ((h.drop (j * 4)).drop 4) ++ [dv, .int .i64 n])) := by
  have e2 : Jo h = Jo (h.take (j * 4)) ++ (Jo ((h.drop (j * 4)).take 4) ++ Jo ((h.drop (j * 4)).drop 4)) := by
   grind [JbW, List.take_append_drop]
  show (stX x a b h n).pre ++ (Jo h ++ [dv, .int .i64 n]) = _
  grind
 grind [JF, St.pre_len, J4, jF]
set_option maxHeartbeats 1000000 in
theorem Jdb {bj : Nat} (j : Nat) (x : Su) (a9 n : Int) (h : List V8) (k : Int) (dv : Value) (hE : DkE bd S0 E)
 (M : Mem wc w (.blk bj #[.int .i64 (j : Int)] 3 :: .blk b2 #[p_ bd] 75 :: .blk b3 #[p_ bS] 356 :: stB bS x a9 n h k dv :: (A ++ E))) (hup : S0.down = false) (hw : ∀ k, (S0.cache k).length ≤ 1000000) (hj : j < 8) (hl : h.length = 32) :
 CT 319 #[p_ bj, p_ b2, p_ b3] w fun e w' => e = .returned (.int .i64 0) ∧ ∃ E', DkE bd (S0.write (26 + (j : Int)) (VF (KA ((h.drop (j * 4)).take 4)))) E' ∧ Mem wc w' (.blk bj #[.int .i64 (j : Int)] 3 :: .blk b2 #[p_ bd] 75 :: .blk b3 #[p_ bS] 356 :: stB bS x a9 n h k dv :: (A ++ E')) := by
 obtain ⟨x0, x1, x2, x3, h4⟩ := JhW hl hj
 have hcell := Jfp x a9 n k dv hl hj
 rw [h4] at hcell ⊢
 refine qI Tryz.func319 20 ?_
 refine gp [[2,1],[3],[920],[921,1]] ?_; intro a S
 (refine qU S (fun w M => GG S rfl rfl o_) ?_); intro a S
 refine gp [[921,1]] ?_; intro a S
 (refine qU S (fun w M => Zo S rfl rfl o_) ?_); intro a S
 (refine qU S (fun w M => GG S rfl rfl o_) ?_); intro a S
 refine go [[921,1,1],[3],[910,8],[911,0,2,1,3,1,16,1,1]] ?_; intro a w2 S M
 refine Jj 7 S rfl (fun w => WF (m := 32) (sz := 8) S k_ rfl rfl rfl o_) ?_; intro a S
 refine k1_ 8 ?_
 rw [show 0 + 15 + ((j : Int) * 4).toNat * 8 = 15 + j * 32 by omega, show (((j : Int) + 1) * 4).toNat - ((j : Int) * 4).toNat = 4 by omega] at S
 refine qD S rfl (JfF (A := [_, _, _] ++ (_ :: A)) (bS := bS) (o := 15 + j * 32) j x0 x1 x2 x3 hE M hup hj hw (fun W M9 => M9.cellsAt (k := 32) 3 rfl hcell)) ?_
 rintro _ w3 ⟨rfl, E2, hE2, M1⟩; refine rv_ ?_; intro a S; have M := M1; clear M1
 replace M := M.c_
 refine kn_ ?_
 refine gp [[911,9,1],[3],[930]] ?_
 grind
set_option maxHeartbeats 1000000 in
theorem Jdf {bj : Nat} (q : Pr × List Wr) (ad : Option Addr) (cp : Nat) (x : Su) (a9 n : Int) (h : List V8) (k : Int) (dv : Value) (hE : DkE bd S0 E)
 (M : Mem wc w (.blk bj (q.1.cellsL (.slice ad q.2.length cp)).toArray 57 :: .blk b2 #[p_ bd] 75 :: .blk b3 #[p_ bS] 356 :: stB bS x a9 n h k dv :: (A ++ E))) (hup : S0.down = false) (hw : ∀ k, (S0.cache k).length ≤ 100000) (hl : h.length = 32)
 (hm : Za q) (hW : ∀ W H, Mem wc W (H ++ (A ++ E)) → Ws 0 W.heap.size W (.slice ad q.2.length cp) q.2) (hlg : Zb a9 n) (hn : n ≤ 2147483648) (hi : 0 ≤ x.inc ∧ x.inc ≤ 1048576) (hroom : n + (VS q : Nat) ≤ a9 + 24) :
 CT 321 #[p_ bj, p_ b2, p_ b3] w fun e w' => e = .returned (.int .i64 0) ∧ ∃ E', DkE bd (jc S0 (V1 (yf q) n x.inc)) E' ∧ Mem wc w' (.blk bj (q.1.cellsL (.slice ad q.2.length cp)).toArray 57 :: .blk b2 #[p_ bd] 75 :: .blk b3 #[p_ bS] 356 :: stB bS x a9 (n + (VS q : Nat)) h k dv :: (A ++ E')) := by
 have hok := J4 x a9 n k hl
 have hel : 1 ≤ (yf q).length ∧ (yf q).length ≤ 90 := Zc hm
 refine qI Tryz.func321 34 ?_
 refine gp [[2,1],[4],[902,0,6]] ?_; intro a S
 refine qK S rfl (KP q.1 ad q.2.length cp _) M ?_; intro a w1 S hK M
 refine qD S rfl (Gw (jd q.1) ad q.2.length cp q.2 _ (by show (0 : Int) ≤ _; omega) (hW _ [_, _, _, _] M)) ?_
 rintro _ w2 ⟨v1, rfl, hK, hF, -⟩; refine rv_ ?_; intro a S
 have hF := hF hm
 rw [if_pos (show (jd q.1).may q.2 = true from hm)] at S
 obtain ⟨lo3, hi3, -, M1⟩ := M.pushFresh hF; clear M; have M := M1; clear M1
 refine gp [[0,1,1,1,1,1],[5,1,1],[2],[941,13],[4]] ?_; intro a S
 refine Yo (C := fun W => Blk W b3 #[p_ bS] 356) [12, 18] #[false, false, false, false, false, false, false, false, false, false, false, false, false, false, false, false, false, false, false, false] rfl M k_ ?_; intro w3 M; have hC := M.blk 3 rfl
 refine JT 0 S rfl hC (fun w hC => Jf S k_ rfl (hC.cells 0)) ?_; intro a S
 refine Yf 1 S rfl hC (fun w hW => have M := M.grow hW; qV S M 2) ?_; intro a S
 refine Yf 2 S rfl hC (fun w hW => have M := M.grow hW; qV S M 3) ?_; intro a S
 refine kcP 3 S hC ?_; intro a S
 refine kcF 4 13 S hC ?_; intro a S
 refine Yf 5 S rfl hC (fun w hW => have M := M.grow hW; Ja S k_ rfl rfl (show CellsAt _ _ _ [.int .i64 a9, .int .i64 n] from M.cellsAt (k := 2) 4 rfl (JaH _ _ _ _ _ _))) ?_; intro a S
 refine Yf 6 S rfl hC (fun w hW => have M := M.grow hW; qV S M 3) ?_; intro a S
 refine kcP 7 S hC ?_; intro a S
 refine kcF 8 0 S hC ?_; intro a S
 refine kcF 9 3 S hC ?_; intro a S
 refine Yf 10 S rfl hC (fun w hW => have M := M.grow hW; Jf S k_ rfl (M.cell 4 rfl (Jhy _ _ _ _ _ _))) ?_; intro a S
 refine kcP 11 S hC ?_; intro a S
 refine VV 12 rfl k_ ?_
 refine qD S rfl (UZ (A := [_, _, _, _] ++ (_ :: A)) a9 n x.inc v1 (yf q) hE M (fun W M9 => M9.readAll 0 rfl (by grind [maxLen])) hup hlg hn hi hw) ?_
 rintro _ w4 ⟨n', er, S2, rfl, hP, E2, hE2, M1⟩; refine rv_ ?_; intro a S; have M := M1; clear M1
 obtain ⟨rfl, rfl, rfl⟩ : n' = n + (VS q : Nat) ∧ er = 0 ∧ S2 = jc S0 (V1 (yf q) n x.inc) := by
  rcases hP with ⟨-, h1, h2, h3⟩ | ⟨h1, -⟩
  ·exact ⟨h1, h2, h3⟩
  ·exact absurd ⟨fun e => by grind, hel.2, by grind [VS]⟩ h1
 replace M := M.c_
 replace hC := M.blk 3 rfl
 refine nxC ⟨fun h => absurd h d_, hC, ?_⟩
 refine kcP 13 S hC ?_; intro a S
 refine kcP 14 S hC ?_; intro a S
 refine kcP 15 S hC ?_; intro a S
 skip
 refine kcP 16 S hC ?_; intro a S
 refine kcF 17 13 S hC ?_; intro a S
 refine VV 18 rfl k_ ?_
 refine Ju (sz := 2) (us := [_, _]) S M 4 rfl k_ rfl rfl rfl rfl rfl rfl (by grind [St.len]) ?_; intro w5 M
 simp only [Jt, List.set_cons_zero, List.set_cons_succ, Nat.reduceAdd] at M
 replace hC := M.blk 3 rfl
 refine nxC ⟨fun h => absurd h d_, hC, ?_⟩
 refine kcP 19 S hC ?_; intro a S
 refine vS k_ ?_
 replace S := S.keep [0, 1, 2, 3, 4, 13, 5]
 refine gp [[3,1,1],[3],[930]] ?_
 rw [Jbl] at M
 exact ⟨rfl, E2, hE2, M.drop 0⟩
theorem Jda (x : Su) (a9 n : Int) (h : List V8) (k : Int) (dv : Value) (hE : DkE bd S0 E)
 (M : Mem wc w (.blk b2 #[p_ bd] 75 :: .blk b3 #[p_ bS] 356 :: stB bS x a9 n h k dv :: (A ++ E))) (hup : S0.down = false) (hw : ∀ k, (S0.cache k).length ≤ 1000000) (hm : x.may) :
 CT 322 #[p_ b2, p_ b3] w fun e w' => e = .returned (.int .i64 0) ∧ ∃ E', DkE bd (S0.write (x.gen % 2) (VN x)) E' ∧ Mem wc w' (.blk b2 #[p_ bd] 75 :: .blk b3 #[p_ bS] 356 :: stB bS x a9 n h k dv :: (A ++ E')) := by
 refine qI Tryz.func322 9 ?_
 refine go [[2,1],[3],[910,5],[911,0,1,2,1,1]] ?_; intro a w1 S M
 refine kR 4 S rfl M (fun w M => Ja S k_ rfl rfl (show CellsAt _ _ _ x.cellsL from M.cellsAt (k := 13) 2 rfl (Jhw _ _ _ _ _ _))) ?_; intro a S
 refine k1_ 5 ?_
 refine qD S rfl (DT (A := [_, _] ++ (_ :: A)) x hE M hup hm hw) ?_
 rintro _ w2 ⟨rfl, E2, hE2, M1⟩; refine rv_ ?_; intro a S; have M := M1; clear M1
 replace M := M.c_
 refine kn_ ?_
 refine gp [[911,6,1],[3],[930]] ?_
 grind
end
structure Disk0 (S : DS) (su : Su) (L : List RI) (c : Nat) (K : Int) (x : Nat) : Prop where
 up : S.down = false
 quiet : ∀ k, ¬ (2 ≤ k ∧ k < 26) → S.cache k = []
 sup : SupI (Y7 S) su
 ph : Phys S su.tail L c su.inc K x
theorem Jex (S : DS) (k : Nat) : S.flush.get k = S.get k := rfl
/-! ### the ledger with its disk -/
def JhC (s : Ls) : Su := { s.cu with gen := s.su.gen + 1, tail := s.n, owned := s.su.owned, inc := s.su.inc }
def Jiy (s : Ls) : Ls := ⟨JhC s, s.cu, s.n + (s.op.length : Int), s.op.map Ji9⟩
def Jbz (s : Ls) (r : Rc) : Prop := 1 + ((s.take r).op.length : Int) ≤ 24 - (s.n - s.su.tail)
instance (s : Ls) (r : Rc) : Decidable (Jbz s r) := by unfold Jbz; infer_instance
def JgS (s : Ls) (r : Rc) : Ls := if Jbz s r then s else Jiy s
def JkD (s : Ls) (r : Rc) : Ls := { JgS s r with n := (JgS s r).n + 1 }.take r
structure Lb (s : Ls) (N : Int) : Prop where
 gen : s.su.gen ≤ N
 inc : s.su.inc ≤ N
 nx : s.n ≤ 10 * N
 few : N ≤ 1000
def Jk3 (S : DS) (s : Ls) (T : List Nm) (K : Int) : Prop := ∃ (L : List RI) (c : Nat), Disk0 S s.su L c K s.op.length ∧ LG s L c ∧ s.n = s.su.tail + (L.length : Int) ∧ ∀ p ∈ L.drop c, p.1.name ∈ T
def Jjd (s : Ls) : List RI := s.op.map fun r => (Ji9 r, s.su.inc)
structure Mid (S : DS) (s : Ls) (i : Nat) (L : List RI) (c : Nat) (K : Int) : Prop where
 dk : Disk0 S s.su (L ++ (Jjd s).take i) c K (s.op.length - i)
 lg : LG s L c
 nx : s.n = s.su.tail + (L.length : Int)
 le : i ≤ s.op.length
/-! ### keep -/
def Jkj (su : Su) : Su := { su with gen := su.gen + 1, inc := su.inc + 1 }
def su1 : Su := { Y6 with gen := 1 }
def s1 : Ls := ⟨su1, Gt su1, 1, []⟩
theorem Jca (k : Nat) (h : k < 34) : YC (List.replicate 2176 0) k = zero64 := by
 grind [YC, zero64]
theorem DP (v : Value) (w : World) (hv : Bs 0 w.heap.size w v zer64) : CQ 252 #[v] w (.tuple #[Jim, .int .i64 40]) := by
 have M := Mem.start w
 have hl := WC
 refine qI Tryz.func252 77 ?_; intro a S
 refine nxD (qN S M Ey ?_); intro a w1 b1 S M hB
 refine gp [[0,1],[4,1]] ?_; intro a S
 refine qD S rfl (KN v zer64 _ (M.argW hv) o_) ?_
 rintro _ w2 ⟨v4, rfl, hK, -, -⟩; refine rv_ ?_; intro a S; replace M := M.grow hK
 rw [vG Qy] at S
 refine gp [[0,1,1,1,1,1],[5,1,1,1]] ?_; intro a S
 refine Jm (t := 17) S rfl ?_ ?_
 ·intro h17 S
  cases h17
 intro h17 S
 refine gp [[0,0,0,0,1],[5]] ?_; intro a S
 refine qB_ Jcg Ex S ?_
 refine go [[900,0],[0,1],[4]] ?_; intro a w3 S M
 refine Jr S rfl (rA_ 6 0 M) rT_ ?_
 exact ⟨rfl, M.below⟩
set_option maxHeartbeats 1000000 in
theorem XC {wo w : World} {A E : List Ent} {b : Nat} {S0 : RS} (tail : Int) (hE : R3E b S0 E) (M : Mem wo w (A ++ E)) (hc : S0.cache.length ≤ 1000) (ht : 1 ≤ tail ∧ tail ≤ 1099511627776) (hz : S0.get (2 + tail % 24) = zer64) :
 CT 166 #[p_ b, .int .i64 tail] w fun e w' => e = .returned (.tuple #[.slice none 0 0, .agg #[.int .i64 tail, .int .i64 tail], .int .i64 0]) ∧ Mem wo w' (A ++ E) := by
 refine qI Tryz.func166 110 ?_
 refine gp [[2,1]] ?_; intro a S
 refine qN S M Zy ?_; intro a w1 bR S M hB
 refine gq [[0,1],[5,1,1,1],[940,20]] ?_ ?_
 ·intro a h20 S
  refine gp [[0,0,0,1],[5]] ?_; intro a S
  refine qB_ VD VW S ?_
  refine go [[0,1],[900,0],[0,1],[4]] ?_; omega
 intro a h20 S
 refine gq [[0,1,1,1],[2],[940,23]] ?_ ?_
 ·intro a h23 S
  refine cT S (nxD (qB_ VD VW S ?_)); intro a S
  refine go [[0,1],[900,0],[0,1],[4]] ?_; omega
 intro a h23 S
 refine gp [[5,1,1]] ?_; intro a S
 refine qB_ VD VW S ?_; intro a S
 refine qN S M Zy ?_; intro a w4 bL S M hB
 refine go [[900,0],[4,1],[4,1],[4,1],[5,1],[3]] ?_; intro a w5 S M
 refine Jc (fun m a w' => Jk 110 a [(0, p_ b), (1, .int .i64 tail), (5, p_ bR), (7, p_ bL), (8, .slice none 0 0), (9, .slice none 0 0), (10, .int .i64 0), (11, .int .i64 ((0 : Nat) : Int))] ∧ Mem wo w' (.blk bL #[.int .i64 tail, .int .i64 tail] 97 :: .blk bR Zy 97 :: (A ++ E))) (0) ?_ ?_
 ·skip
  exact ⟨S.sub _ rfl, M⟩
 intro m a wl
 rintro ⟨S, M⟩
 refine gp [[3,1,1],[2],[942,29],[7,1,1],[901],[0,1],[4,1]] ?_; intro a S
 refine qK S rfl (JbC (tail + ((0 : Nat) : Int)) _) M ?_; intro a w6 S hK M
 refine gp [[0,1,1,1,1,1],[4]] ?_; intro a S
 have hpe : plE (tail + ((0 : Nat) : Int)) = 0 := by grind [plE]
 have hpv : plV (tail + ((0 : Nat) : Int)) = 2 + tail % 24 := by grind [plV]
 rw [hpe, hpv] at S
 refine gp [[1,1,1],[2],[941,41],[5,1,1]] ?_; intro a S
 refine qD S rfl (GW (A := _ :: _ :: A) (2 + tail % 24) hE M hc o_) ?_
 rintro _ w7 ⟨q, rfl, hqb, hq64, M1⟩; refine rv_ ?_; intro a S
 have hqx : q.bs = zer64 := hqb.trans hz
 have M := M1; clear M1
 simp only [List.cons_append] at M
 refine gp [[0,1,1,1,1,1],[5,1,1],[2],[941,49],[5,1]] ?_; intro a S
 refine qK S rfl (DP q.val _ (by have := M.readAll 0 rfl (by grind [maxLen]); grind)) M ?_; intro a w8 S hK M
 refine qG [1, 1, 1] S ?_; intro a S
 refine qN S M Ey ?_; intro a w9 bX S M hB
 refine go [[900,0],[0,1],[5,1,1,1],[942,59],[0,0,0,0,0,1,1,0,0,0,0,1,1,0,0,0,0,1],[11],[910,3],[911,0,1],[912,1,2,2],[911,2,1],[914,3,3],[911,4,1],[3]] ?_; intro a w12 S M
 refine JY S rfl rT_ (rA_ 2 3 M) rT_ ?_
 skip
 replace M := (((M.drp 0).drp 0).drp 0).drp 0
 grind
theorem Jbu {wo w : World} {A E : List Ent} {b : Nat} {S0 : RS} (tail : Int) (hE : R3E b S0 E) (M : Mem wo w (A ++ E)) (hc : S0.cache.length ≤ 1000) (ht : 1 ≤ tail ∧ tail ≤ 1099511627776) (hz : S0.get (2 + tail % 24) = zer64) :
 CT 93 #[p_ b, .int .i64 tail] w fun e w' => e = .returned (.tuple #[.slice none 0 0, .agg #[.int .i64 tail, .int .i64 tail], .int .i64 0]) ∧ Mem wo w' (A ++ E) := by
 refine qI Tryz.func93 36 ?_
 refine gp [[2,1]] ?_; intro a S
 refine qN S M Zy ?_; intro a w1 bR S M hB
 refine gp [[0,1],[4,1,1]] ?_; intro a S
 refine qD S rfl (XC (A := _ :: A) tail hE M hc ht hz) ?_
 rintro _ w2 ⟨rfl, M1⟩; refine rv_ ?_; intro a S; have M := M1; clear M1
 simp only [List.cons_append] at M
 refine gp [[0,1,1,1,1]] ?_; intro a S
 refine qN S M Zy ?_; intro a w3 bL S M hB
 refine go [[0,1],[900,0],[0,1],[4,1],[5,1],[3]] ?_; intro a w4 S M
 refine Jc (fun m a w' => Jk 36 a [(5, p_ bR), (7, .slice none 0 0), (8, p_ bL), (9, .int .i64 0), (10, .slice none 0 0), (11, .int .i64 0)] ∧ Mem wo w' (.blk bL #[.int .i64 tail, .int .i64 tail] 97 :: .blk bR Zy 97 :: (A ++ E))) (0) ?_ ?_
 ·skip
  exact ⟨S.sub _ rfl, M⟩
 intro m a wl
 rintro ⟨S, M⟩
 refine go [[3,1,1],[903,274],[0,1],[2],[941,22],[7],[910,4],[911,0,1],[912,1,0,2],[911,2,1,1],[914,4,1],[911,5,1],[3]] ?_; intro a w6 S M
 refine JY S rfl rT_ (rA_ 2 1 M) rT_ ?_
 skip
 replace M := (M.drp 0).drp 0
 grind
end Go.Proofs.YtocppoflhllelaaGreat
