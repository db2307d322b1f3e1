/-
  What PartStrict rests on, part 26.
-/
import Derived.Test.YtocppoflhllelaaGreatP23
namespace Go.Proofs.YtocppoflhllelaaGreat
open Go.RowKit Go.Sort
def Kb (sure : List (List UInt8)) (c : List (Int × List UInt8)) : List (List UInt8) := c.foldl (fun s x => s.set x.1.toNat x.2) sure
def RS.flush (S : RS) : RS := ⟨Kb S.sure S.cache, []⟩
theorem Jam (s : List (List UInt8)) (c : List (Int × List UInt8)) (x : Int × List UInt8) : Kb s (c ++ [x]) = (Kb s c).set x.1.toNat x.2 := by grind [Kb]
set_option maxHeartbeats 1000000 in
theorem Jb2 {wo w : World} {A E : List Ent} {b : Nat} {S : RS} (hE : R3E b S E) (M : Mem wo w (A ++ E)) (hc : S.cache.length ≤ 1000) :
 CT 18 #[p_ b] w fun e w' => e = .returned (.int .i64 0) ∧ ∃ E', R3E b S.flush E' ∧ Mem wo w' (A ++ E') := by
 obtain ⟨r, hok, rfl, rfl⟩ := hE
 replace M := R3.open M
 have hcl : r.cache.length ≤ 1000 := by grind [R3.st]
 have hsl := hok.len
 refine qI Tryz.func18 41 ?_
 refine gp [[2,1],[5,1,1,3,1],[2],[941,7],[6,1],[3]] ?_; intro a S
 refine Jc (fun m a w' => ∃ (j : Nat) (su : List RB) (lo hi : Nat), j ≤ r.cache.length ∧ m = r.cache.length - j ∧ su.length = r.sure.length ∧ (∀ x ∈ su, x ∈ r.pool ∧ x.bs.length = 64) ∧ su.map RB.bs = Kb (r.sure.map RB.bs) ((r.cache.map FdM.pl).take j) ∧ Jk 41 a [(0, p_ b), (3, .int .i64 (j : Int))] ∧ Mem wo w' (.blk b r.cells.toArray 120 :: Jd lo hi 77 1 (.slice r.sa r.sure.length r.sc) r.sure.length (su.map RB.val) :: r.rowC :: (r.pool.map RB.ent ++ A))) (r.cache.length) ?_ ?_
 ·skip
  exact ⟨0, r.sure, _, _, Nat.zero_le _, rfl, rfl, hok.inS, rfl, S.sub _ rfl, M⟩
 intro m a wl
 rintro ⟨j, su, lo, hi, hj, rfl, hsu, hin, hfl, S, M⟩
 refine gq [[3,1,1,1,2,1],[904,125,2],[0,1],[2],[943,14]] ?_ ?_
 ·intro a h14 S
  refine gp [[7]] ?_; intro a S
  have hjl : (r.cache.map FdM.pl).take j = r.cache.map FdM.pl := List.take_of_length_le (by grind)
  rw [hjl] at hfl
  refine go [[1,1,1,2],[900,0],[4,1],[3],[930]] ?_; intro w2 M
  replace M := M.drp 2
  obtain ⟨lo9, hi9, M1⟩ := M.nilRow 125 2
  clear M; have M := M1; clear M1
  refine ⟨rfl, _, ⟨{ r with slo := lo, shi := hi, ca := none, cc := 0, clo := lo9, chi := hi9, sure := su, cache := [] }, ⟨by grind, hin, fun y hy => absurd hy (by simp)⟩, ?_, rfl⟩, R3.close ?_⟩
  rotate_left
  ·show Mem _ _ (.blk b #[.slice r.sa su.length r.sc, .slice none 0 0, .bool false] _ :: Jd lo hi _ 1 (.slice r.sa su.length r.sc) su.length (su.map RB.val) :: Jd _ _ _ 2 (.slice none 0 0) 0 [] :: _)
   rw [hsu]
   exact M.perm ((List.Perm.swap _ _ _).trans (List.Perm.cons _ (List.Perm.swap _ _ _)))
  grind [RS.flush, R3.st]
 intro a h14 S
 refine gp [[5]] ?_; intro a S
 have hjl : j < r.cache.length := by omega
 obtain ⟨x, hx⟩ : ∃ x, r.cache[j]? = some x := ⟨_, List.getElem?_eq_getElem hjl⟩
 have hxm := hok.inC x (List.mem_of_getElem? hx)
 obtain ⟨k, hk, hk34⟩ : ∃ k : Nat, x.1 = (k : Int) ∧ k < 34 := ⟨x.1.toNat, by omega, by omega⟩
 have htk : (r.cache.map FdM.pl).take (j + 1) = (r.cache.map FdM.pl).take j ++ [x.pl] := by grind [List.take_add_one]
 refine go [[910,21],[911,0,1,1,1,1,1,1,2,1,1]] ?_; intro a w1 S M
 refine kR 9 S rfl M (fun w M => qX 125 2 S (M.readAll 2 rfl (by grind [maxLen]))) ?_; intro a S
 replace S := S.n_
 refine kF 10 0 S ?_; intro a S
 refine kR 11 S rfl M (fun w M => Jf S k_ rfl ((M.readAll 2 rfl (by grind [maxLen])).at_.row (i := j) (KE hx) rfl 0 (show 0 < 2 by omega))) ?_
 refine gp [[911,12,1,1,2,1,1]] ?_; intro a S
 refine kR 17 S rfl M (fun w M => qX 125 2 S (M.readAll 2 rfl (by grind [maxLen]))) ?_; intro a S
 replace S := S.n_
 refine kF 18 1 S ?_; intro a S
 refine kR 19 S rfl M (fun w M => Jf S k_ rfl ((M.readAll 2 rfl (by grind [maxLen])).at_.row (i := j) (KE hx) rfl 1 (show 1 < 2 by omega))) ?_; intro a S
 rw [hk] at S
 refine kR 20 S rfl M (fun w M => qX 77 1 S (M.readAll 1 rfl (by grind [maxLen]))) ?_; intro a S
 replace S := S.n_
 refine k1_ 21 ?_
 refine Vh (v := .slice r.sa r.sure.length r.sc) (sz := 1) (m := r.sure.length) (j := k) (us := [x.2.val]) S M 1 rfl k_ rfl rfl (by rfl) rfl rfl rfl rfl rfl o_ (by grind) (by grind) ?_; intro wz lo9 hi9 M
 replace M := M.e_
 rw [E7 (by grind)] at M
 refine kn_ ?_
 refine gp [[4,1],[901],[0,1],[2]] ?_; intro a S
 have hms : (su.map RB.val).set k x.2.val = (su.set k x.2).map RB.val := List.map_set.symm
 rw [hms] at M
 refine ⟨r.cache.length - (j + 1), by omega, j + 1, su.set k x.2, lo9, hi9, by omega, rfl, by grind, fun y hy => ?_, ?_, S.sub _ rfl, M.perm (List.Perm.swap _ _ _)⟩
 ·grind
 grind [Jam, List.map_set]
theorem Ev (su : List RB) (k : Nat) {x : RB} (hx : su[k]? = some x) : ((su.map RB.bs).take (k + 1)).flatten = ((su.map RB.bs).take k).flatten ++ x.bs := by
 grind [List.take_add_one]
set_option maxHeartbeats 1000000 in
theorem Eu {wo w : World} {A E : List Ent} {b : Nat} {S : RS} (hE : R3E b S E) (M : Mem wo w (A ++ E)) :
 CT 20 #[p_ b] w fun e w' => ∃ q : RB, e = .returned q.val ∧ q.bs = S.sure.flatten ∧ Mem wo w' (q.ent :: (A ++ E)) := by
 obtain ⟨r, hok, rfl, rfl⟩ := hE
 replace M := R3.open M
 have hsl := hok.len
 have h64 : ∀ k, k ≤ 34 → ((r.sure.map RB.bs).take k).flatten.length = k * 64 := fun k hk => by
  induction k with
  | zero => simp
  | succ k ih =>
    obtain ⟨x, hx⟩ : ∃ x, r.sure[k]? = some x := ⟨_, List.getElem?_eq_getElem o_⟩
    rw [Ev r.sure k hx, List.length_append, ih o_, (hok.inS x (List.mem_of_getElem? hx)).2]; omega
 refine qI Tryz.func20 24 ?_
 refine gp [[2,1],[4,1],[5,1],[3]] ?_; intro a S
 refine Jc (fun m a w' => ∃ (k : Nat) (oa : Option Addr) (oc lo hi : Nat), k ≤ 34 ∧ m = 34 - k ∧ Jk 24 a [(0, p_ b), (3, .slice oa (k * 64) oc), (4, .int .i64 (k : Int))] ∧ Mem wo w' (Jd lo hi 5 1 (.slice oa (k * 64) oc) (k * 64) (Jh ((r.sure.map RB.bs).take k).flatten) :: .blk b r.cells.toArray 120 :: r.rowS :: r.rowC :: (r.pool.map RB.ent ++ A))) (34) ?_ ?_
 ·skip
  exact ⟨0, _, _, _, _, Nat.zero_le _, rfl, S.sub _ rfl, M.rowNil 5 1⟩
 intro m a wl
 rintro ⟨k, oa, oc, lo, hi, hk, rfl, S, M⟩
 refine gq [[3,1,1,1,1,2],[904,77,2],[0,1],[2],[943,11]] ?_ ?_
 ·intro a h11 S
  refine gp [[8,1,1],[3],[930]] ?_
  obtain rfl : k = 34 := by omega
  have hall : (r.sure.map RB.bs).take 34 = r.sure.map RB.bs := List.take_of_length_le (by grind)
  rw [hall] at M
  have hl : (r.sure.map RB.bs).flatten.length = 34 * 64 := by grind
  refine ⟨⟨lo, hi, oa, oc, (r.sure.map RB.bs).flatten⟩, ?_, rfl, ?_⟩
  ·grind
  ·show Mem _ _ (Jd lo hi _ 1 (.slice oa (r.sure.map RB.bs).flatten.length oc) (r.sure.map RB.bs).flatten.length _ :: _)
   rw [hl]
   exact M.perm (List.Perm.cons _ (List.perm_append_comm (l₁ := r.ents b)))
 intro a h11 S
 refine gp [[5]] ?_; intro a S
 have hk' : k < 34 := by omega
 obtain ⟨x, hx⟩ : ∃ x, r.sure[k]? = some x := ⟨_, List.getElem?_eq_getElem o_⟩
 have hxm := hok.inS x (List.mem_of_getElem? hx)
 refine gp [[1,1,1,1,1,2,1],[905,77,1,2]] ?_; intro a S
 refine qY S (Jf S k_ rfl ((M.readAll 2 rfl (by grind [maxLen])).at_.one k (by rw [List.getElem?_map, hx]; rfl))) ?_; intro a S
 refine JI (e := 5) (sz := 1) (by_ := 1) (zc := Ym) S M 0 rfl rfl k_ rfl d_ rfl rfl rfl (M.readIn (show x.ent ∈ _ from List.mem_cons_of_mem _ (List.mem_cons_of_mem _ (List.mem_cons_of_mem _ (List.mem_cons_of_mem _ (List.mem_append_left _ (List.mem_map_of_mem hxm.1)))))) (by grind [maxLen])) (JA _) o_ (by grind [maxLen]) ?_; intro a w1 vA loA hiA S M
 obtain ⟨aA, cA, rfl, -, -⟩ := (M.readAll 0 rfl (by grind [maxLen])).form
 refine qY S (JP S rfl) ?_; intro a S
 replace S := S.keep [0, 4, 11, 3]
 refine gp [[4,1],[901],[0,1],[2]] ?_; intro a S
 have e1 : k * 64 + x.bs.length = (k + 1) * 64 := by omega
 rw [e1] at S M
 refine ⟨34 - (k + 1), by omega, k + 1, aA, cA, loA, hiA, by omega, rfl, S.sub _ rfl, ?_⟩
 grind [Ev, Vv]
def RS.new : RS := ⟨List.replicate 34 (List.replicate 64 0), []⟩
theorem JhS : y7 [Value.int .u8 0] 64 = Jh (List.replicate 64 0) := by kernel_rfl
set_option maxHeartbeats 1000000 in
theorem JfQ (w : World) : CT 15 #[] w fun e w' => ∃ b E, e = .returned (p_ b) ∧ R3E b RS.new E ∧ Mem w w' E := by
 have M := Mem.start w
 refine qI Tryz.func15 20 ?_
 refine gp [[2,1],[4]] ?_; intro a S
 refine qB_ ZU [.slice none 0 0, .slice none 0 0, .bool false] S ?_; intro a S
 refine qW_ S M ?_; intro a w1 bD S M hB
 refine gp [[0,1],[5,1],[3]] ?_; intro a S
 refine Jc (fun m a w' => ∃ (k : Nat) (su : List RB) (sa : Option Addr) (sc lo hi : Nat), k ≤ 34 ∧ m = 34 - k ∧ su.length = k ∧ (∀ x ∈ su, x.bs = List.replicate 64 0) ∧ Jk 20 a [(1, p_ bD), (2, .int .i64 (k : Int))] ∧ Mem w w' (Jd lo hi 77 1 (.slice sa k sc) k (su.map RB.val) :: .blk bD #[.slice sa k sc, .slice none 0 0, .bool false] 120 :: su.map RB.ent)) (34) ?_ ?_
 ·skip
  exact ⟨0, [], _, _, _, _, Nat.zero_le _, rfl, rfl, fun x hx => absurd hx (by simp), S.sub _ rfl, M.rowNil 77 1⟩
 intro m a wl
 rintro ⟨k, su, sa, sc, lo, hi, hk, rfl, hsu, hz, S, M⟩
 refine gq [[3,1,1],[2],[943,6]] ?_ ?_
 ·intro a h6 S
  refine gp [[8,1,1],[3],[930]] ?_
  obtain rfl : k = 34 := by omega
  obtain ⟨lo9, hi9, M1⟩ := M.nilRow 125 2
  refine ⟨bD, _, rfl, ⟨⟨sa, sc, lo, hi, none, 0, lo9, hi9, su, [], su⟩, ⟨hsu, fun x hx => ⟨hx, by grind⟩, fun x hx => absurd hx (by simp)⟩, ?_, rfl⟩, ?_⟩
  ·grind [RS.new, R3.st, List.eq_replicate_iff, List.length_map]
  ·show Mem _ _ (.blk bD #[.slice sa su.length sc, .slice none 0 0, .bool false] _ :: Jd lo hi _ 1 (.slice sa su.length sc) su.length (su.map RB.val) :: Jd lo9 hi9 _ 2 (.slice none 0 0) 0 [] :: _)
   rw [hsu]
   exact M1.perm (List.Perm.trans (List.perm_middle (l₁ := [_, _])).symm (List.Perm.swap _ _ _) |>.symm)
 intro a h6 S
 refine go [[5],[910,7,10],[911,0,1,1,1,1,2]] ?_; intro a w2 S M
 refine k1_ 5 ?_
 refine Z2 (e := 5) (sz := 1) (by_ := 1) (zc := Ym) S M rfl rfl k_ rfl rfl o_ o_ o_ o_ ?_; intro a w3 bN S M hB
 try simp only [Int.reduceToNat, Nat.reduceMul] at S M
 refine kH_ hB ?_
 refine k1_ 6 ?_
 refine JG (ps := [(0, .tmp 14)]) (e := 77) (sz := 1) (zl := [.slice none 0 0]) (cs := [_]) S M rfl rfl k_ rfl (rfl) ?_; intro a w4 bZ S M hB
 refine kH_ hB ?_
 refine k1_ 7 ?_
 refine qP_ (e := 77) (sz := 1) (by_ := 24) (zc := [.slice none 0 0]) S M 2 rfl rfl rfl (show Rd _ _ _ 1 _ 1 [Value.slice (some ⟨bN, 0, none⟩) 64 64] from M.sliceAt 0 rfl (M.cellsAt (k := 1) 0 rfl rfl) rfl (Nat.le_refl _) (by grind [maxLen])) ?_; intro a w5 vA loA hiA S M
 refine kn_ ?_
 obtain ⟨aA, cA, rfl, -, -⟩ := (M.readAll 0 rfl (by grind [maxLen])).form
 refine go [[911,8,1,1],[914,10,3],[4,1],[901],[0,1],[2]] ?_; intro a w6 S M
 replace M := M.od [3, 1, 3]
 replace M := M.drp 3
 rw [JhS] at M
 have M5 := M.toRow (sz := 1) (m := 64) (cap := 64) (xs := Jh (List.replicate 64 0)) 0 rfl k_ o_ d_ k_ k_
 refine ⟨34 - (k + 1), by omega, k + 1, su ++ [⟨bN, bN + 1, some ⟨bN, 0, none⟩, 64, List.replicate 64 0⟩], aA, cA, loA, hiA, by omega, rfl, by grind, fun x hx => ?_, S.sub _ rfl, ?_⟩
 ·grind
 ·rw [List.map_append, List.map_append]
  exact M5.perm ((List.perm_middle (l₁ := [_, _])).symm.trans (List.Perm.cons _ (List.Perm.cons _ (List.perm_append_comm (l₁ := [_])))))
def JgE (S S' : RS) : Prop := S'.sure = S.sure ∧ ∃ l, S'.cache = S.cache ++ l ∧ ∀ x ∈ l, (2 ≤ x.1 ∧ x.1 < 26) ∧ x.2.length = 64
def JkQ (wo : World) (A : List Ent) (b : Nat) (S : RS) (e : Ending) (w' : World) : Prop := ∃ (t' n' er : Int) (S' : RS) (E' : List Ent), e = .returned (.tuple #[.agg #[.int .i64 t', .int .i64 n'], .int .i64 er]) ∧ R3E b S' E' ∧ Mem wo w' (A ++ E') ∧ JgE S S' ∧ S'.cache.length ≤ S.cache.length + 2
def Jj6 (l : List FrB) (f : Fr) : Bool := match l with
 | [] => f.part == 0
 | g :: _ => f.part == (l.length : Int) && f.of == g.1.of && f.mark == g.1.mark && f.inc == g.1.inc
def JjJ (S : RS) (tail : Int) (i : Nat) : List UInt8 := S.get (2 + (tail + i) % 24)
def Jbq (S : RS) (tail : Int) : List (List UInt8) := (List.range (vo tail)).map (JjJ S tail)
def rcT (A E : List Ent) (fs : List FrM) (ls : List FdM) : List Ent := (fs.map (fun p => p.2.ent) ++ (ls.map (fun p => p.2.ent) ++ A)) ++ E
structure RcI (S : RS) (tail : Int) (i : Nat) (s : Sc) (fs : List FrM) (ls : List FdM) : Prop where
 seq : s.seq = tail + (i : Int)
 begun : s.begun = fs.map FrM.pl
 l : s.l = ls.map FdM.pl
 may : ∀ p ∈ fs, p.1.may p.2.bs.length = true
 short : ∀ p ∈ ls, p.2.bs.length ≤ 90
 fl : fs.length ≤ i
 ll : ls.length ≤ i
 run : i ≤ vo tail ∧ ∀ t, zW (sc0 tail) ((Jbq S tail).take i ++ t) = zW s t
def RcE (S : RS) (tail : Int) (ls : List FdM) (nx : Int) : Prop := (zW (sc0 tail) (Jbq S tail)).l = ls.map FdM.pl ∧ (zW (sc0 tail) (Jbq S tail)).next = nx ∧ (∀ p ∈ ls, p.2.bs.length ≤ 90) ∧ ls.length ≤ 24
def JkL (wo : World) (A E : List Ent) (s : Sc) (tail : Int) (e : Ending) (w' : World) : Prop := ∃ (ls : List FdM) (la : Option Addr) (lc lo hi : Nat), e = .returned (.tuple #[.slice la ls.length lc, .agg #[.int .i64 tail, .int .i64 s.next], .int .i64 0]) ∧ s.l = ls.map FdM.pl ∧ (∀ p ∈ ls, p.2.bs.length ≤ 90) ∧ ls.length ≤ 24 ∧ Mem wo w' (Jd lo hi 274 2 (.slice la ls.length lc) ls.length (fdC ls) :: (ls.map (fun p => p.2.ent) ++ (A ++ E)))

theorem Ec (s : Su) (w : World) : CQ 43 #[.agg s.cellsL.toArray] w (.bool (decide s.may)) := by
 have M := Mem.start w
 refine qI Tryz.func43 68 ?_; intro a S
 refine nxD (qW_ S M ?_); intro a w1 bB S M hB
 refine gp [[0,1],[5,1],[3]] ?_; intro a S
 refine Jc (fun m a w' => ∃ k : Nat, k ≤ 8 ∧ m = 8 - k ∧ (∀ i, i < k → 0 ≤ s.mAt i ∧ s.mAt i ≤ 4) ∧ Jk 68 a [(1, p_ bB), (3, .int .i64 (k : Int))] ∧ Mem w w' [.blk bB s.cellsL.toArray 71]) (8) ?_ ?_
 ·skip
  exact ⟨0, by omega, rfl, fun i h => absurd h o_, S.sub _ rfl, M⟩
 intro m a wl
 rintro ⟨k, hk, rfl, hpre, S, M⟩
 refine gq [[3,1,1],[2],[940,5]] ?_ ?_
 ·intro a h5 S
  refine gp [[7,1,6],[906,8,1]] ?_; intro a S
  refine qY S (Jf S k_ rfl (M.cell 0 rfl (s.mAt_cell o_))) ?_
  refine gq [[0,1,1],[940,13]] ?_ ?_
  ·intro a h13 S
   refine gp [[0,0,0,0,0,0,1],[5,1],[8],[930]] ?_
   refine ⟨Jb ?_, M.below⟩
   rw [decide_eq_false]
   rintro ⟨h1, -⟩
   have := h1 k o_
   omega
  intro a h13 S
  refine gp [[0,1,6],[906,8,1]] ?_; intro a S
  refine qY S (Jf S k_ rfl (M.cell 0 rfl (s.mAt_cell o_))) ?_
  refine gq [[0,1,1],[2],[940,19]] ?_ ?_
  ·intro a h19 S
   refine gp [[3,1],[8],[930]] ?_
   refine ⟨Jb ?_, M.below⟩
   rw [decide_eq_false]
   rintro ⟨h1, -⟩
   have := h1 k o_
   omega
  intro a h19 S
  refine gp [[5,1],[901],[0,1],[2]] ?_; intro a S
  refine ⟨8 - (k + 1), by omega, k + 1, by omega, rfl, fun i hi => ?_, S.sub _ rfl, M⟩
  grind
 intro a h5 S
 refine gq [[8,1,1,1,1],[943,23]] ?_ ?_
 ·intro a h23 S
  refine gp [[0,0,0,0,1,1,0,0,0,1,1,0,0,0,1,1,0,0,0,1,1,0,0,0,1,1,0,0,0,1,1,0,0,0,1,1,0,0,0,1,1,0,0,0,1,1],[3],[930]] ?_
  refine ⟨Jb ?_, M.below⟩
  grind [Su.may]
 intro a h23 S
 refine gq [[0,1,1,1,1,1],[943,28]] ?_ ?_
 ·intro a h28 S
  refine gp [[0,0,0,0,1,1,0,0,0,1,1,0,0,0,1,1,0,0,0,1,1,0,0,0,1,1,0,0,0,1,1,0,0,0,1,1,0,0,0,1,1],[3],[930]] ?_
  refine ⟨Jb ?_, M.below⟩
  grind [Su.may]
 intro a h28 S
 refine gq [[0,2,1,1,1,1],[943,33]] ?_ ?_
 ·intro a h33 S
  refine gp [[0,0,0,0,1,1,0,0,0,1,1,0,0,0,1,1,0,0,0,1,1,0,0,0,1,1,0,0,0,1,1,0,0,0,1,1],[3],[930]] ?_
  refine ⟨Jb ?_, M.below⟩
  grind [Su.may]
 intro a h33 S
 refine gq [[0,2,1,1,1,1],[943,38]] ?_ ?_
 ·intro a h38 S
  refine gp [[0,0,0,0,1,1,0,0,0,1,1,0,0,0,1,1,0,0,0,1,1,0,0,0,1,1,0,0,0,1,1],[3],[930]] ?_
  refine ⟨Jb ?_, M.below⟩
  grind [Su.may]
 intro a h38 S
 refine gq [[0,3,1,1,1,1],[943,43]] ?_ ?_
 ·intro a h43 S
  refine gp [[0,0,0,0,1,1,0,0,0,1,1,0,0,0,1,1,0,0,0,1,1,0,0,0,1,1],[3],[930]] ?_
  refine ⟨Jb ?_, M.below⟩
  grind [Su.may]
 intro a h43 S
 refine gq [[0,3,1,1,1,1],[943,48]] ?_ ?_
 ·intro a h48 S
  refine gp [[0,0,0,0,1,1,0,0,0,1,1,0,0,0,1,1,0,0,0,1,1],[3],[930]] ?_
  refine ⟨Jb ?_, M.below⟩
  grind [Su.may]
 intro a h48 S
 refine gq [[0,4,1,1,1,1],[943,53]] ?_ ?_
 ·intro a h53 S
  refine gp [[0,0,0,0,1,1,0,0,0,1,1,0,0,0,1,1],[3],[930]] ?_
  refine ⟨Jb ?_, M.below⟩
  grind [Su.may]
 intro a h53 S
 refine gq [[0,4,1,1,1,1],[943,58]] ?_ ?_
 ·intro a h58 S
  refine gp [[0,0,0,0,1,1,0,0,0,1,1],[3],[930]] ?_
  refine ⟨Jb ?_, M.below⟩
  grind [Su.may]
 intro a h58 S
 refine gq [[0,5,1,1,1,1],[943,63]] ?_ ?_
 ·intro a h63 S
  refine gp [[0,0,0,0,1,1],[3],[930]] ?_
  refine ⟨Jb ?_, M.below⟩
  grind [Su.may]
 intro a h63 S
 refine gp [[0,5,1,1,1,1],[3],[930]] ?_
 refine ⟨Jb ?_, M.below⟩
 have hm : s.mapOk := fun i hi => hpre i o_
 grind [Su.may]
theorem UJ (w : World) : CQ 16 #[] w (.agg Y6.cellsL.toArray) := by
 have M := Mem.start w
 refine qI Tryz.func16 2 ?_; intro a S
 refine nxD (qN S M cz2 ?_); intro a w1 bB S M hB
 refine nxA (qB_ zw cz5 S ?_); intro a S
 refine go [[900,0],[3]] ?_; intro a w2 S M
 refine Vb S rfl (rA_ 13 0 M) ?_
 exact ⟨rfl, M.below⟩
theorem Gq (v : Value) (bs : List UInt8) (w : World) (hv : Bs 0 w.heap.size w v bs) : CQ 163 #[v] w (.bool (JB bs)) := by
 have M := Mem.start w
 have hl := hv.2.1
 unfold maxLen at hl
 refine qI Tryz.func163 15 ?_
 refine gp [[2,1],[5,1],[3]] ?_; intro a S
 refine Jc (fun m a w' => ∃ k : Nat, k ≤ bs.length ∧ m = bs.length - k ∧ (∀ i x, i < k → bs[i]? = some x → x = 0) ∧ Jk 15 a [(0, v), (3, .int .i64 (k : Int))] ∧ Mem w w' []) (bs.length) ?_ ?_
 ·skip
  exact ⟨0, by omega, rfl, fun i _ h => absurd h o_, S.sub _ rfl, M⟩
 intro m a wl
 rintro ⟨k, hk, rfl, hpre, S, M⟩
 refine gq [[3,1,1],[908,5],[0,1],[2],[943,7]] ?_ ?_
 ·intro a h7 S
  refine gp [[8,1],[3],[930]] ?_
  refine ⟨Jb ?_, M.below⟩
  grind [KI]
 intro a h7 S
 refine gp [[6]] ?_; intro a S
 have hkl : k < bs.length := by omega
 obtain ⟨x, hx⟩ : ∃ x, bs[k]? = some x := ⟨_, List.getElem?_eq_getElem hkl⟩
 refine gp [[1,1,1],[907,5,1]] ?_; intro a S
 refine qY S (Jf S k_ rfl ((M.arg hv).byte hx)) ?_
 refine gq [[0,1],[2],[940,14]] ?_ ?_
 ·intro a h14 S
  refine gp [[3,1],[8],[930]] ?_
  refine ⟨Jb ?_, M.below⟩
  rw [WB hx]
  rintro rfl
  grind
 intro a h14 S
 refine gp [[5,1],[901],[0,1],[2]] ?_; intro a S
 refine ⟨bs.length - (k + 1), by omega, k + 1, by omega, rfl, fun i y hi hy => ?_, S.sub _ rfl, M⟩
 rcases Nat.lt_or_ge i k with h | h
 ·grind
 ·obtain rfl : i = k := by omega
  rw [hx] at hy; cases hy
  exact UInt8.toNat.inj (by grind)
theorem jL (v : Value) (bs : List UInt8) (p k : Nat) (w : World) (hv : Bs 0 w.heap.size w v bs) (hk : k ≤ 6) (hp : p + k ≤ bs.length) :
 CQ 250 #[v, .int .i64 (p : Int), .int .i64 (k : Int)] w (.int .i64 (JZ bs p k)) := by
 have M := Mem.start w
 have hl := hv.2.1
 unfold maxLen at hl
 refine qI Tryz.func250 28 ?_
 refine gp [[2,1],[4,1],[5,1],[3]] ?_; intro a S
 refine Jc (fun m a w' => ∃ (j : Nat), j ≤ k ∧ m = k - j ∧ Jk 28 a [(0, v), (1, .int .i64 (p : Int)), (2, .int .i64 (k : Int)), (7, .int .i64 (JZ bs p j)), (8, .int .i64 (j : Int))] ∧ Mem w w' []) (k) ?_ ?_
 ·skip
  exact ⟨0, Nat.zero_le _, rfl, S.sub _ rfl, M⟩
 intro m a wl
 rintro ⟨j, hj, rfl, S, M⟩
 refine gq [[3,1,1,1],[2],[943,11]] ?_ ?_
 ·intro a h11 S
  refine gp [[8,1,1],[3],[930]] ?_
  obtain rfl : j = k := by omega
  exact ⟨rfl, M.below⟩
 intro a h11 S
 refine gp [[5]] ?_; intro a S
 have hj5 : j ≤ 5 := by omega
 obtain ⟨x, hx⟩ : ∃ x, (bs.drop p)[j]? = some x := ⟨_, List.getElem?_eq_getElem (by grind)⟩
 have hx' : bs[((p : Int) + (j : Int)).toNat]? = some x := by grind
 obtain ⟨hs1, hs2⟩ := JgK x j hj5
 have hx256 : x.toNat < 256 := UInt8.toNat_lt x
 have hn := JaN bs p (j := j) o_
 have hn1 := JaN bs p (j := j + 1) o_
 have hnn := Jd3 hx hj5
 refine gp [[1,1,1,1,1],[901],[907,5,1]] ?_; intro a S
 refine qY S (Jf S k_ rfl ((M.arg hv).byte hx')) ?_; intro a S
 (refine qY S (zG S rfl k_ k_ o_) ?_); intro a S
 refine gp [[0,1],[901]] ?_; intro a S
 refine qY S (U3 S rfl k_ k_ o_) ?_; intro a S
 (refine qY S (JcR S rfl rfl o_ o_) ?_); intro a S
 rw [hs1] at S
 refine qA S ?_; intro a S
 rw [hnn] at S
 refine qY S (JP S rfl) ?_; intro a S
 replace S := S.keep [0, 1, 2, 8, 11, 7]
 refine gp [[4,1],[901],[0,1],[2]] ?_; intro a S
 exact ⟨k - (j + 1), by omega, j + 1, by omega, rfl, S.sub _ rfl, M⟩
theorem Jd0 (v : Value) (bs : List UInt8) (n : Nat) (w : World) (hv : Bs 0 w.heap.size w v bs) (hb : bs.length ≤ 1000) (hn : n + 4 ≤ bs.length) :
 CT 165 #[v, .int .i64 (n : Int)] w (OpnP bs n w) := by
 have M := Mem.start w
 have hcap := hv.cap
 have hX := hv.cutB (i := n + 4) (j := bs.length) (mx := Yb v) o_ (Nat.le_refl _) hcap.1 (Nat.le_refl _)
 rw [List.take_of_length_le (by simp)] at hX
 have hY := hv.cutB (i := 0) (j := n + 4) (mx := Yb v) (Nat.zero_le _) o_ o_ (Nat.le_refl _)
 rw [List.drop_zero, Nat.sub_zero] at hY
 have en : ((n : Int) + 4).toNat = n + 4 := by omega
 refine qI Tryz.func165 26 ?_
 refine gp [[2,1,1],[5,1],[908,5],[0,1],[901],[0,1,1],[941,11],[0,1,1],[901]] ?_; intro a S
 refine qY S (jH (e := 5) (sz := 1) S k_ rfl (M.arg hv) rfl o_) ?_; intro a S
 try rw [en] at S
 refine qK S rfl (Gq _ (bs.drop (n + 4)) _ (M.argW hX)) M ?_; intro a w1 S hK M
 refine gq [[0,1,1],[2],[940,18]] ?_ ?_
 ·intro a h18 S
  refine gp [[3,1,1],[4],[931]] ?_
  grind [JaK, YD]
 intro a h18 S
 refine gp [[5,1,1],[901]] ?_; intro a S
 refine qY S (zN (e := 5) (sz := 1) S k_ rfl (M.arg hv) rfl o_) ?_; intro a S
 try rw [en] at S
 refine qD S rfl (KN _ (bs.take (n + 4)) _ (M.argW hY) (by grind)) ?_
 rintro _ w2 ⟨v2, rfl, hK, hF, hN⟩; have hK0 := M.below; replace M := M.grow hK
 refine gp [[0,1,1,1,1],[3],[931]] ?_
 exact OpnP.mk o_ hn hK0 M.below hF hN
end Go.Proofs.YtocppoflhllelaaGreat
