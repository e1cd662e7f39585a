/- Part of the proof that FnExactWalkSteps answers true. -/
import Derived.Test.YtggiicplcglalaaGreatQW19
section
namespace Go.Proofs.YtggiicplcglalaaGreat.GmFo
open Go.RowKit YtggiicplcglalaaGreat.All YtggiicplcglalaaGreatW.PrintWords YtggiicplcglalaaGreatW.PrintLast YtggiicplcglalaaGreat.Eqs YtggiicplcglalaaGreat.GmDet YtggiicplcglalaaGreat.GmRed YtggiicplcglalaaGreat.LH YtggiicplcglalaaGreat.GmSol YtggiicplcglalaaGreat.GmDot YtggiicplcglalaaGreat.GmFig YtggiicplcglalaaGreat.GmPut YtggiicplcglalaaGreat.GmImp YtggiicplcglalaaGreat.Games YtggiicplcglalaaGreat.L1
set_option linter.unusedVariables false
set_option linter.unusedSimpArgs false
def wN (m n : Nat) (a : List (List Int)) : Prop := a.length = m ∧ ∀ r ∈ a, r.length = n ∧ ∀ x ∈ r, -9 ≤ x ∧ x ≤ 9
def d3 (n : Nat) : Prop := n = 1 ∨ n = 2 ∨ n = 3
theorem xK {a : List (List Int)} (h : table a = true) : d3 a.length ∧ d3 (a.getD 0 []).length ∧ ∀ r ∈ a, r.length = (a.getD 0 []).length ∧ ∀ x ∈ r, -9 ≤ x ∧ x ≤ 9 := by
 unfold table at h
 rw [Bool.and_eq_true, Bool.and_eq_true] at h
 obtain ⟨h1, h2, h3⟩ := h
 unfold qu at h1 h2
 simp only [Bool.and_eq_true, decide_eq_true_eq] at h1 h2
 refine ⟨by unfold d3; omega, by unfold d3; omega, fun r hr => ?_⟩
 have := List.all_eq_true.mp h3 r hr
 rw [Bool.and_eq_true] at this
 obtain ⟨h4, h5⟩ := this
 refine ⟨by have := of_decide_eq_true h4; omega, fun x hx => ?_⟩
 have := List.all_eq_true.mp h5 x hx
 unfold qu at this
 simp only [Bool.and_eq_true, decide_eq_true_eq] at this
 omega
theorem JM {a b : List (List Int)} (h : Fi a b = true) : ∃ m n, d3 m ∧ d3 n ∧ wN m n a ∧ wN m n b ∧ (a.getD 0 []).length = n := by
 unfold Fi at h
 rw [Bool.and_eq_true, Bool.and_eq_true, Bool.and_eq_true] at h
 obtain ⟨h1, h2, h3, h4⟩ := h
 have h3 := of_decide_eq_true h3
 have h4 := of_decide_eq_true h4
 obtain ⟨a1, a2, a3⟩ := xK h1
 obtain ⟨b1, b2, b3⟩ := xK h2
 exact ⟨a.length, (a.getD 0 []).length, a1, a2, ⟨rfl, a3⟩, ⟨by omega, fun r hr => ⟨by have := (b3 r hr).1; omega, (b3 r hr).2⟩⟩, rfl⟩
def plus (r : List Int) : List Int := r.map (· + 10)
def ig (b : List (List Int)) (j : Nat) : List Int := b.map fun r => r.getD j 0
def M1 (n : Nat) (b : List (List Int)) : List (List Int) := (List.range n).map fun j => plus (ig b j)
def M2 (a : List (List Int)) : List (List Int) := a.map plus
def uw (dim m : Nat) (M : List (List Int)) : Prop := M.length = m ∧ ∀ r ∈ M, r.length = dim ∧ ∀ x ∈ r, 1 ≤ x ∧ x ≤ 19
theorem jx {r : List Int} {j : Nat} (h : j < r.length) : r.getD j 0 = r[j] := by simp [List.getD, List.getElem?_eq_getElem h]
theorem j7 {m n : Nat} {b : List (List Int)} (h : wN m n b) : uw m n (M1 n b) := by
 refine ⟨by simp [M1], fun r hr => ?_⟩
 obtain ⟨j, hj, rfl⟩ := List.mem_map.1 hr
 have hj := List.mem_range.1 hj
 refine ⟨by simp [plus, ig, h.1], fun x hx => ?_⟩
 obtain ⟨y, hy, rfl⟩ := List.mem_map.1 hx
 obtain ⟨q, hq, rfl⟩ := List.mem_map.1 hy
 obtain ⟨q1, q2⟩ := h.2 q hq
 have tg : j < q.length := by omega
 have := q2 _ (List.getElem_mem tg)
 rw [jx tg]
 omega
theorem ir {m n : Nat} {a : List (List Int)} (h : wN m n a) : uw n m (M2 a) := by
 refine ⟨by simp [M2, h.1], fun r hr => ?_⟩
 obtain ⟨q, hq, rfl⟩ := List.mem_map.1 hr
 obtain ⟨q1, q2⟩ := h.2 q hq
 refine ⟨by simp [plus, q1], fun x hx => ?_⟩
 obtain ⟨y, hy, rfl⟩ := List.mem_map.1 hx
 have := q2 y hy
 omega
def xq (n : Nat) : List Cn := (List.range n).map fun i => ⟨j6 n i, 0, true⟩
def r8 (M : List (List Int)) : List Cn := M.map fun r => ⟨r, 1, false⟩
def ji (n : Nat) (M : List (List Int)) : List Cn := xq n ++ r8 M
def jj (n : Nat) (M : List (List Int)) : List Cn := r8 M ++ xq n
theorem cnA {n : Nat} {M : List (List Int)} {k : Nat} (h : k < n + M.length) : kM (ji n M) k = if k < n then ⟨j6 n k, 0, true⟩ else ⟨M.getD (k - n) [], 1, false⟩ := by
 have hl : (ji n M).length = n + M.length := by simp [ji, xq, r8]
 rw [zw (by omega)]
 unfold ji
 by_cases c : k < n
 ·rw [if_pos c, List.getElem_append_left (by simp [xq]; omega)]
  simp [xq]
 ·rw [if_neg c, List.getElem_append_right (by simp [xq]; omega)]
  have e : k - (xq n).length = k - n := by simp [xq]
  simp only [e, r8, List.getElem_map]
  rw [List.getD_eq_getElem?_getD, List.getElem?_eq_getElem (by omega)]
  rfl
theorem cnB {n : Nat} {M : List (List Int)} {k : Nat} (h : k < n + M.length) : kM (jj n M) k = if k < M.length then ⟨M.getD k [], 1, false⟩ else ⟨j6 n (k - M.length), 0, true⟩ := by
 have hl : (jj n M).length = n + M.length := by simp [jj, xq, r8]; omega
 rw [zw (by omega)]
 unfold jj
 by_cases c : k < M.length
 ·rw [if_pos c, List.getElem_append_left (by simp [r8]; omega)]
  simp only [r8, List.getElem_map]
  rw [List.getD_eq_getElem?_getD, List.getElem?_eq_getElem (by omega)]
  rfl
 ·rw [if_neg c, List.getElem_append_right (by simp [r8]; omega)]
  have e : k - (r8 M).length = k - M.length := by simp [r8]
  simp only [e]
  simp [xq]
theorem OR {n : Nat} {M : List (List Int)} {k : Nat} (h : k < n + M.length) : FL (ji n M) k = FA n M k := by
 unfold FL CL FA zu
 rw [cnA h]
 by_cases c : k < n
 ·simp only [if_pos c]; rfl
 ·simp only [if_neg c]; rfl
theorem OS {n : Nat} {M : List (List Int)} {k : Nat} (h : k < n + M.length) : FL (jj n M) k = FB n M k := by
 unfold FL CL FB zu
 rw [cnB h]
 by_cases c : k < M.length
 ·simp only [if_pos c]; rfl
 ·simp only [if_neg c]; rfl
theorem WN (n : Nat) (M : List (List Int)) : (ji n M).length = n + M.length := by simp [ji, xq, r8]
theorem WO (n : Nat) (M : List (List Int)) : (jj n M).length = n + M.length := by simp [jj, xq, r8]; omega
theorem xL (n i : Nat) : ∀ x ∈ j6 n i, x.natAbs ≤ 19 := by
 intro x hx
 rcases List.mem_or_eq_of_mem_set hx with h | h
 ·have := List.eq_of_mem_replicate h
  subst this; decide
 ·subst h; decide
theorem Bz {n : Nat} {M : List (List Int)} {q : Cn} (h : q ∈ xq n ∨ q ∈ r8 M) (m : Nat) (hM : uw n m M) : q.f0.length = n ∧ (∀ a ∈ q.f0, a.natAbs ≤ 19) ∧ q.f1.natAbs ≤ 19 := by
 rcases h with h | h
 ·obtain ⟨i, _, rfl⟩ := List.mem_map.1 h
  exact ⟨sG _ _, xL _ _, by show (0 : Int).natAbs ≤ 19; decide⟩
 ·obtain ⟨r, hr, rfl⟩ := List.mem_map.1 h
  obtain ⟨a, b⟩ := hM.2 r hr
  exact ⟨a, fun x hx => by have := b x hx; omega, by show (1 : Int).natAbs ≤ 19; decide⟩
theorem Dc {n m : Nat} (hn : d3 n) (hm : d3 m) {M : List (List Int)} (hM : uw n m M) : lJ n (ji n M) := by
 refine ⟨hn, ?_, fun q hq => Bz (List.mem_append.1 hq) m hM⟩
 rw [WN, hM.1]
 rcases hm with rfl | rfl | rfl <;> omega
theorem Dd {n m : Nat} (hn : d3 n) (hm : d3 m) {M : List (List Int)} (hM : uw n m M) : lJ n (jj n M) := by
 refine ⟨hn, ?_, fun q hq => Bz ((List.mem_append.1 hq).symm) m hM⟩
 rw [WO, hM.1]
 rcases hm with rfl | rfl | rfl <;> omega
theorem SG {n : Nat} (hn : d3 n) {p : List Int} (hp : p.length = n + 1) {i : Nat} (hi : i < n) : D5 (j6 n i) 0 p = p.getD i 0 := by
 unfold D5
 rcases hn with rfl | rfl | rfl
 ·obtain ⟨x, d, rfl⟩ := mR hp
  obtain rfl : i = 0 := by omega
  simp [j6, jM, List.replicate]
 ·obtain ⟨x, y, d, rfl⟩ := lQ hp
  have : i = 0 ∨ i = 1 := by omega
  rcases this with rfl | rfl <;> simp [j6, jM, List.replicate]
 ·obtain ⟨x, y, z, d, rfl⟩ := Fm hp
  have : i = 0 ∨ i = 1 ∨ i = 2 := by omega
  rcases this with rfl | rfl | rfl <;> simp [j6, jM, List.replicate]
theorem sN {n : Nat} (hn : d3 n) {p : List Int} (hp : p.length = n + 1) {i : Nat} (hi : i < n) : ev (pad 1 (j6 n i, 0)) (e6 p) = p.getD i 0 := by
 rw [zv hn 0 1 (sG n i) hp, SG hn hp hi, Int.one_mul]
theorem SH {n : Nat} (hn : d3 n) {p : List Int} (hp : p.length = n + 1) : (e6 p).2.2.2 = p.getD n 0 := by
 rcases hn with rfl | rfl | rfl
 ·obtain ⟨x, d, rfl⟩ := mR hp; rfl
 ·obtain ⟨x, y, d, rfl⟩ := lQ hp; rfl
 ·obtain ⟨x, y, z, d, rfl⟩ := Fm hp; rfl
theorem CB {n : Nat} (hn : d3 n) {p : List Int} (hp : p.length = n + 1) (h0 : 0 < (e6 p).2.2.2) (h : ∀ i, i < n → 0 ≤ p.getD i 0) : ∀ x ∈ p, 0 ≤ x := by
 intro x hx
 obtain ⟨i, hi, rfl⟩ := List.mem_iff_getElem.1 hx
 by_cases c : i < n
 ·have := h i c
  rwa [jx hi] at this
 ·obtain rfl : i = n := by omega
  rw [SH hn hp, jx hi] at h0
  omega
theorem WQ {n : Nat} (hn : d3 n) (M : List (List Int)) : NonNeg n (ji n M) := by
 intro p hp h0 lS
 refine CB hn hp h0 fun i hi => ?_
 have := lS i (by rw [WN]; omega)
 rw [OR (by omega)] at this
 unfold FA at this
 rwa [if_pos hi, sN hn hp hi] at this
theorem WR {n : Nat} (hn : d3 n) (M : List (List Int)) : NonNeg n (jj n M) := by
 intro p hp h0 lS
 refine CB hn hp h0 fun i hi => ?_
 have := lS (M.length + i) (by rw [WO]; omega)
 rw [OS (by omega)] at this
 unfold FB at this
 rwa [if_neg (by omega), show M.length + i - M.length = i by omega, sN hn hp hi] at this
def origin (n : Nat) : List Int := List.replicate n 0 ++ [1]
theorem kN {n : Nat} (hn : d3 n) (M : List (List Int)) (hM : ∀ r ∈ M, r.length = n) : eX (FA n M) (n + M.length) n (origin n) := by
 have lS : ∀ k, k < n + M.length → 0 ≤ ev (FA n M k) (e6 (origin n)) := by
  intro k hk
  have hp : (origin n).length = n + 1 := by simp [origin]
  unfold FA
  by_cases c : k < n
  ·rw [if_pos c, sN hn hp c]
   have : (origin n).getD k 0 = 0 := by
    unfold origin
    rw [jx (by simp; omega), List.getElem_append_left (by simpa using c)]
    simp
   omega
  ·rw [if_neg c]
   have hr := hM _ (GmFig.ic (show k - n < M.length by omega))
   rw [zv hn 1 (-1) hr hp]
   unfold D5
   rw [hr]
   generalize M.getD (k - n) [] = r at hr
   rcases hn with rfl | rfl | rfl
   ·obtain ⟨a, rfl⟩ := uk hr; simp [origin, jM, List.replicate]
   ·obtain ⟨a, b, rfl⟩ := mR hr; simp [origin, jM, List.replicate]
   ·obtain ⟨a, b, c, rfl⟩ := lQ hr; simp [origin, jM, List.replicate]
 refine ⟨by simp [origin], ?_, ?_, lS, List.range n, by simp, fun k hk => ?_, ?_⟩
 ·rcases hn with rfl | rfl | rfl <;> decide
 ·rcases hn with rfl | rfl | rfl <;> decide
 ·have hk := List.mem_range.1 hk
  refine ⟨by omega, ?_⟩
  unfold FA
  rw [if_pos hk, sN hn (by simp [origin]) hk]
  unfold origin
  rw [jx (by simp; omega), List.getElem_append_left (by simpa using hk)]
  simp
 ·rcases hn with rfl | rfl | rfl
  ·show fs (FA 1 M 0) (fJ 1) (fJ 2) ≠ 0
   simp only [FA, show (0 : Nat) < 1 by omega, if_true]
   decide
  ·show fs (FA 2 M 0) (FA 2 M 1) (fJ 2) ≠ 0
   simp only [FA, show (0 : Nat) < 2 by omega, show (1 : Nat) < 2 by omega, if_true]
   decide
  ·show fs (FA 3 M 0) (FA 3 M 1) (FA 3 M 2) ≠ 0
   simp only [FA, show (0 : Nat) < 3 by omega, show (1 : Nat) < 3 by omega, show (2 : Nat) < 3 by omega, if_true]
   decide
theorem MC {n : Nat} (hn : d3 n) (M : List (List Int)) (p : List Int) : eX (FL (ji n M)) (ji n M).length n p ↔ eX (FA n M) (n + M.length) n p := by
 rw [WN]
 exact ⟨kc hn (fun k hk => ⟨k, hk, OR hk⟩) (fun k hk => ⟨k, hk, (OR hk).symm⟩), kc hn (fun k hk => ⟨k, hk, (OR hk).symm⟩) (fun k hk => ⟨k, hk, OR hk⟩)⟩
theorem MD {n : Nat} (hn : d3 n) (M : List (List Int)) (p : List Int) : eX (FL (jj n M)) (jj n M).length n p ↔ eX (FA n M) (n + M.length) n p := by
 rw [WO, Bu hn]
 exact ⟨kc hn (fun k hk => ⟨k, hk, OS hk⟩) (fun k hk => ⟨k, hk, (OS hk).symm⟩), kc hn (fun k hk => ⟨k, hk, (OS hk).symm⟩) (fun k hk => ⟨k, hk, OS hk⟩)⟩
theorem akQ {n : Nat} (M : List (List Int)) (p : H) : jL (FL (ji n M)) (ji n M).length p = jL (FA n M) (n + M.length) p := by
 unfold jL
 rw [WN]
 exact List.filter_congr fun k hk => by rw [OR (List.mem_range.1 hk)]
theorem akR {n : Nat} (M : List (List Int)) (p : H) : jL (FL (jj n M)) (jj n M).length p = jL (FB n M) (n + M.length) p := by
 unfold jL
 rw [WO]
 exact List.filter_congr fun k hk => by rw [OS (List.mem_range.1 hk)]
theorem ME {i n : Nat} (h : i < n) (hn : n ≤ 1000) : kd.f (i : Int) (n : Int) = some (j6 n i) := by
 unfold kd.f
 rw [if_pos (by omega), if_pos (by omega), Option.bind_some, if_pos (by omega), if_pos (by simp; omega), Int.toNat_natCast, Int.toNat_natCast]
 rfl
theorem adY (b : List (List Int)) (j : Nat) (hj : ∀ r ∈ b, j < r.length) (hl : b.length ≤ 1000) (d : Nat) :
  ∀ i : Nat, i + d = b.length → Ev (fun k => cD.l0 k (j : Int) ((b.take i).map fun r => r.getD j 0) b (b.length : Int) (i : Int)) (ig b j) := by
 induction d with
 | zero =>
  intro i hi
  rw [List.take_of_length_le (by omega)]
  refine Ev.step (fun k => ?_) (Ev.now _)
  simp only [cD.l0]
  rw [if_neg (by omega)]
  rfl
 | succ d ih =>
  intro i hi
  have h1 : i < b.length := by omega
  have hr := hj _ (List.getElem_mem h1)
  have ei : wrap64 ((i : Int) + 1) = ((i + 1 : Nat) : Int) := by unfold wrap64; omega
  have er : aJ b (i : Int) = b[i] := by simp [aJ, List.getD, List.getElem?_eq_getElem h1]
  refine Ev.step (fun k => ?_) (ih (i + 1) (by omega))
  simp only [cD.l0]
  rw [if_pos (by omega), if_pos (by omega), if_pos (by omega), er, if_pos (by omega), if_pos (by omega), if_pos (by simp; omega), b9 hr, ei, List.take_succ_eq_append_getElem h1, List.map_append]
  simp only [List.map_cons, List.map_nil]
  rw [jx hr]
theorem SI (b : List (List Int)) (j : Nat) (hj : ∀ r ∈ b, j < r.length) (hl : b.length ≤ 1000) : Ev (fun k => cD.f k b (j : Int)) (ig b j) := adY b j hj hl b.length 0 (by omega)
theorem GK (q : List Int) (i : Nat) (h : i < q.length) : ((q.take i).map (· + 10) ++ q.drop i).set i (q[i] + 10) = (q.take (i + 1)).map (· + 10) ++ q.drop (i + 1) := by
 rw [List.set_append, if_neg (by simp; omega), List.drop_eq_getElem_cons h, List.take_succ_eq_append_getElem h, List.map_append, List.append_assoc]
 have : i - (List.map (· + 10) (q.take i)).length = 0 := by simp; omega
 rw [this]
 rfl
theorem MF (x y : List Cn) (hx : x.length ≤ 1000) (hy : y.length ≤ 1000) : Ev (fun k => aX.f k [x, y]) (x ++ y) := by
 refine ⟨10, fun k hk => ?_⟩
 obtain ⟨k, rfl⟩ : ∃ d, k = d + 6 := ⟨k - 6, by omega⟩
 have w1 : wrap64 ((0 : Int) + (x.length : Int)) = (x.length : Int) := by rw [Int.zero_add]; exact dC (by omega) (by omega)
 have w2 : wrap64 ((x.length : Int) + (y.length : Int)) = (x.length : Int) + (y.length : Int) := dC (by omega) (by omega)
 have e0 : wrap64 (0 + 1) = 1 := by unfold wrap64; omega
 have e1 : wrap64 (1 + 1) = 2 := by unfold wrap64; omega
 have w0 : wrap64 (x.length : Int) = (x.length : Int) := dC (by omega) (by omega)
 have r0 : ∀ t : List Cn → Int, t (([x, y] : List (List Cn)).getD (0 : Int).toNat []) = t x := fun _ => rfl
 simp only [aX.f, aX.l0, aX.l1, List.length_cons, List.length_nil, e0, e1]
 simp [oT, w0, w1, w2, e0, e1]
 omega
theorem adZ (a b : List (List Int)) (x5 : Int) (x8 x9 : List Cn) (h9 : x9.length ≤ 100) (q : List Int) (hq : ∀ x ∈ q, -9 ≤ x ∧ x ≤ 9) (hl : q.length ≤ 100) (sc De : Int) (v : Int × List Cn) (f_ : Ev (fun k => aA.ux k 1 x5 x8 (x9 ++ [⟨plus q, 1, false⟩]) sc (wrap64 (De + 1)) a b) v) (d : Nat) :
  ∀ i : Nat, i + d = q.length → Ev (fun k => aA.uy k 1 x5 x8 x9 ((q.take i).map (· + 10) ++ q.drop i) sc De (q.length : Int) (i : Int) a b) v := by
 induction d with
 | zero =>
  intro i hi
  rw [List.take_of_length_le (by omega), List.drop_eq_nil_of_le (by omega), List.append_nil]
  refine Ev.step (fun k => ?_) f_
  simp only [aA.uy]
  rw [if_neg (by omega), if_pos (by omega)]
  rfl
 | succ d ih =>
  intro i hi
  have h1 : i < q.length := by omega
  have hb := hq _ (List.getElem_mem h1)
  have ei : wrap64 ((i : Int) + 1) = ((i + 1 : Nat) : Int) := by unfold wrap64; omega
  have hlen : ((q.take i).map (· + 10) ++ q.drop i).length = q.length := by simp; omega
  have er : rd ((q.take i).map (· + 10) ++ q.drop i) (i : Int) = q[i] := by
   have h2 : i < ((q.take i).map (· + 10) ++ q.drop i).length := by omega
   rw [b9 h2, qb _ q i h1 h2]
  refine Ev.step (fun k => ?_) (ih (i + 1) (by omega))
  simp only [aA.uy]
  rw [if_pos (by omega), if_pos (by omega), if_pos (by omega), er, dC (x := q[i] + 10) (by omega) (by omega), Int.toNat_natCast, GK q i h1, ei]
theorem WS {m n : Nat} {a b : List (List Int)} (hm : d3 m) (hn : d3 n) (hb : wN m n b) (d : Nat) :
  ∀ i : Nat, i + d = n → Ev (fun k => aA.ux k 1 (m : Int) (xq m) (r8 ((List.range i).map fun j => plus (ig b j))) (n : Int) (i : Int) a b) ((m : Int), ji m (M1 n b)) := by
 have GL : m ≤ 3 := by rcases hm with h | h | h <;> omega
 have yY : n ≤ 3 := by rcases hn with h | h | h <;> omega
 have hlu : (xq m).length ≤ 1000 := by simp [xq]; omega
 induction d with
 | zero =>
  intro i hi
  obtain rfl : i = n := by omega
  have PA : (r8 ((List.range i).map fun j => plus (ig b j))).length ≤ 1000 := by simp [r8]; omega
  refine Ev.step (f := fun k => (aX.f k [xq m, r8 ((List.range i).map fun j => plus (ig b j))]).bind fun t => some ((m : Int), t)) (fun k => ?_) (Ev.bind (MF _ _ hlu PA) (Ev.now _))
  simp only [aA.ux]
  rw [if_neg (by omega), if_neg (by omega)]
 | succ d ih =>
  intro i hi
  have ei : wrap64 ((i : Int) + 1) = ((i + 1 : Nat) : Int) := by unfold wrap64; omega
  have key := ih (i + 1) (by omega)
  rw [List.range_succ, List.map_append] at key
  have e9 : r8 (((List.range i).map fun j => plus (ig b j)) ++ [i].map fun j => plus (ig b j)) = r8 ((List.range i).map fun j => plus (ig b j)) ++ [⟨plus (ig b i), 1, false⟩] := by simp [r8]
  rw [e9] at key
  have hl9 : (r8 ((List.range i).map fun j => plus (ig b j))).length ≤ 100 := by simp [r8]; omega
  have hq : ∀ x ∈ ig b i, -9 ≤ x ∧ x ≤ 9 := by
   intro x hx
   obtain ⟨r, hr, rfl⟩ := List.mem_map.1 hx
   obtain ⟨r1, r2⟩ := hb.2 r hr
   rw [jx (by omega)]
   exact r2 _ (List.getElem_mem _)
  have Tp : (ig b i).length ≤ 100 := by simp [ig, hb.1]; omega
  refine Ev.step (f := fun k => (jO.f k (i : Int) a b).bind fun t => aA.uy k 1 (m : Int) (xq m) (r8 ((List.range i).map fun j => plus (ig b j))) t (n : Int) (i : Int) (t.length : Int) 0 a b) (fun k => ?_) (Ev.bind (a := ig b i) (SI b i (fun r hr => by rw [(hb.2 r hr).1]; omega) (by rw [hb.1]; omega)) ?_)
  ·simp only [aA.ux]
   rw [if_pos (by omega)]
  ·have := adZ a b (m : Int) (xq m) (r8 ((List.range i).map fun j => plus (ig b j))) hl9 (ig b i) hq Tp (n : Int) (i : Int) _ (by rw [ei]; exact key) (ig b i).length 0 (by omega)
   simpa using this
theorem SJ {m n : Nat} {a b : List (List Int)} (hm : d3 m) (hn : d3 n) (hb : wN m n b) (d : Nat) :
  ∀ i : Nat, i + d = m → Ev (fun k => aA.sf k 1 (m : Int) (n : Int) ((List.range i).map fun j => (⟨j6 m j, 0, true⟩ : Cn)) [] (m : Int) (i : Int) a b) ((m : Int), ji m (M1 n b)) := by
 have GL : m ≤ 3 := by rcases hm with h | h | h <;> omega
 have yY : n ≤ 3 := by rcases hn with h | h | h <;> omega
 induction d with
 | zero =>
  intro i hi
  obtain rfl : i = m := by omega
  refine Ev.step (fun k => ?_) (WS (a := a) (b := b) hm hn hb n 0 (by omega))
  simp only [aA.sf]
  rw [if_neg (by omega)]
  rfl
 | succ d ih =>
  intro i hi
  have ei : wrap64 ((i : Int) + 1) = ((i + 1 : Nat) : Int) := by unfold wrap64; omega
  have key := ih (i + 1) (by omega)
  rw [List.range_succ, List.map_append] at key
  refine Ev.step (fun k => ?_) key
  simp only [aA.sf]
  rw [if_pos (by omega), ME (show i < m by omega) (by omega), Option.bind_some, if_pos (by simp; omega), ei]
  rfl
theorem ad0 (a b : List (List Int)) (x5 : Int) (x8 x9 : List Cn) (h9 : x9.length ≤ 100) (q : List Int) (hq : ∀ x ∈ q, -9 ≤ x ∧ x ≤ 9) (hl : q.length ≤ 100) (sc De : Int) (v : Int × List Cn) (f_ : Ev (fun k => aA.l1 k 2 x5 x8 (x9 ++ [⟨plus q, 1, false⟩]) sc (wrap64 (De + 1)) a b) v) (d : Nat) :
  ∀ i : Nat, i + d = q.length → Ev (fun k => aA.uz k 2 x5 x8 x9 ((q.take i).map (· + 10) ++ q.drop i) sc De (q.length : Int) (i : Int) a b) v := by
 induction d with
 | zero =>
  intro i hi
  rw [List.take_of_length_le (by omega), List.drop_eq_nil_of_le (by omega), List.append_nil]
  refine Ev.step (fun k => ?_) f_
  simp only [aA.uz]
  rw [if_neg (by omega), if_pos (by omega)]
  rfl
 | succ d ih =>
  intro i hi
  have h1 : i < q.length := by omega
  have hb := hq _ (List.getElem_mem h1)
  have ei : wrap64 ((i : Int) + 1) = ((i + 1 : Nat) : Int) := by unfold wrap64; omega
  have hlen : ((q.take i).map (· + 10) ++ q.drop i).length = q.length := by simp; omega
  have er : rd ((q.take i).map (· + 10) ++ q.drop i) (i : Int) = q[i] := by
   have h2 : i < ((q.take i).map (· + 10) ++ q.drop i).length := by omega
   rw [b9 h2, qb _ q i h1 h2]
  refine Ev.step (fun k => ?_) (ih (i + 1) (by omega))
  simp only [aA.uz]
  rw [if_pos (by omega), if_pos (by omega), if_pos (by omega), er, dC (x := q[i] + 10) (by omega) (by omega), Int.toNat_natCast, GK q i h1, ei]
theorem WT {m n : Nat} {a b : List (List Int)} (hm : d3 m) (hn : d3 n) (ha : wN m n a) (d : Nat) :
  ∀ i : Nat, i + d = m → Ev (fun k => aA.l1 k 2 (n : Int) (xq n) (r8 ((List.range i).map fun j => plus (a.getD j []))) (m : Int) (i : Int) a b) ((n : Int), jj n (M2 a)) := by
 have GL : m ≤ 3 := by rcases hm with h | h | h <;> omega
 have yY : n ≤ 3 := by rcases hn with h | h | h <;> omega
 have hlu : (xq n).length ≤ 1000 := by simp [xq]; omega
 induction d with
 | zero =>
  intro i hi
  obtain rfl : i = m := by omega
  have PA : (r8 ((List.range i).map fun j => plus (a.getD j []))).length ≤ 1000 := by simp [r8]; omega
  have eM : ((List.range i).map fun j => plus (a.getD j [])) = M2 a := by
   unfold M2
   apply List.ext_getElem
   ·simp [ha.1]
   ·intro j h1 h2
    simp only [List.getElem_map, List.getElem_range]
    rw [List.getD_eq_getElem?_getD, List.getElem?_eq_getElem (by simpa using h2)]
    rfl
  rw [eM] at PA ⊢
  refine Ev.step (f := fun k => (aX.f k [r8 (M2 a), xq n]).bind fun t => some ((n : Int), t)) (fun k => ?_) (Ev.bind (MF _ _ PA hlu) (Ev.now _))
  simp only [aA.l1]
  rw [if_neg (by omega), if_pos trivial]
 | succ d ih =>
  intro i hi
  have ei : wrap64 ((i : Int) + 1) = ((i + 1 : Nat) : Int) := by unfold wrap64; omega
  have key := ih (i + 1) (by omega)
  rw [List.range_succ, List.map_append] at key
  have e9 : r8 (((List.range i).map fun j => plus (a.getD j [])) ++ [i].map fun j => plus (a.getD j [])) = r8 ((List.range i).map fun j => plus (a.getD j [])) ++ [⟨plus (a.getD i []), 1, false⟩] := by simp [r8]
  rw [e9] at key
  have hl9 : (r8 ((List.range i).map fun j => plus (a.getD j []))).length ≤ 100 := by simp [r8]; omega
  have K7 : i < a.length := by rw [ha.1]; omega
  have eg : a.getD i [] = a[i] := by simp [List.getD, List.getElem?_eq_getElem K7]
  obtain ⟨r1, r2⟩ := ha.2 _ (List.getElem_mem K7)
  have arE : ∀ k : Nat, la.f (i : Int) a b = some (a.getD i []) := fun k => by
   unfold la.f
   rw [if_pos ⟨by omega, by omega⟩, Int.toNat_natCast]
   exact zl _ (by rw [eg]; omega)
  refine Ev.step (f := fun k => aA.uz k 2 (n : Int) (xq n) (r8 ((List.range i).map fun j => plus (a.getD j []))) (a.getD i []) (m : Int) (i : Int) ((a.getD i []).length : Int) 0 a b) (fun k => ?_) ?_
  ·simp only [aA.l1]
   rw [if_pos (by omega), arE k, Option.bind_some]
  ·have := ad0 a b (n : Int) (xq n) (r8 ((List.range i).map fun j => plus (a.getD j []))) hl9 (a.getD i []) (by rw [eg]; exact r2) (by rw [eg]; omega) (m : Int) (i : Int) _ (by rw [ei]; exact key) (a.getD i []).length 0 (by omega)
   simpa using this
theorem SK {m n : Nat} {a b : List (List Int)} (hm : d3 m) (hn : d3 n) (ha : wN m n a) (d : Nat) :
  ∀ i : Nat, i + d = n → Ev (fun k => aA.l0 k 2 (n : Int) (m : Int) ((List.range i).map fun j => (⟨j6 n j, 0, true⟩ : Cn)) [] (n : Int) (i : Int) a b) ((n : Int), jj n (M2 a)) := by
 have GL : m ≤ 3 := by rcases hm with h | h | h <;> omega
 have yY : n ≤ 3 := by rcases hn with h | h | h <;> omega
 induction d with
 | zero =>
  intro i hi
  obtain rfl : i = n := by omega
  refine Ev.step (fun k => ?_) (WT (a := a) (b := b) hm hn ha m 0 (by omega))
  simp only [aA.l0]
  rw [if_neg (by omega)]
  rfl
 | succ d ih =>
  intro i hi
  have ei : wrap64 ((i : Int) + 1) = ((i + 1 : Nat) : Int) := by unfold wrap64; omega
  have key := ih (i + 1) (by omega)
  rw [List.range_succ, List.map_append] at key
  refine Ev.step (fun k => ?_) key
  simp only [aA.l0]
  rw [if_pos (by omega), ME (show i < n by omega) (by omega), Option.bind_some, if_pos (by simp; omega), ei]
  rfl
theorem CC {m n : Nat} {a b : List (List Int)} (hm : d3 m) (hn : d3 n) (ha : wN m n a) (hb : wN m n b) (h0 : (a.getD 0 []).length = n) : Ev (fun k => aA.f k a b 1) ((m : Int), ji m (M1 n b)) := by
 have hm1 : 1 ≤ m := by rcases hm with h | h | h <;> omega
 refine Ev.congr (fun k => ?_) (SJ (a := a) hm hn hb m 0 (by omega))
 unfold aA.f dU.f dd.f
 have er : aJ a 0 = a.getD 0 [] := rfl
 rw [Option.bind_some, if_pos (by rw [ha.1]; omega), er, Option.bind_some, if_neg (by omega), ha.1, h0]
 rfl
theorem CD {m n : Nat} {a b : List (List Int)} (hm : d3 m) (hn : d3 n) (ha : wN m n a) (hb : wN m n b) (h0 : (a.getD 0 []).length = n) : Ev (fun k => aA.f k a b 2) ((n : Int), jj n (M2 a)) := by
 have hm1 : 1 ≤ m := by rcases hm with h | h | h <;> omega
 refine Ev.congr (fun k => ?_) (SK (b := b) hm hn ha n 0 (by omega))
 unfold aA.f dU.f dd.f
 have er : aJ a 0 = a.getD 0 [] := rfl
 rw [Option.bind_some, if_pos (by rw [ha.1]; omega), er, Option.bind_some, if_pos rfl, Option.bind_some, Option.bind_some, ha.1, h0]
 rfl
end Go.Proofs.YtggiicplcglalaaGreat.GmFo
end
section
namespace Go.Proofs.YtggiicplcglalaaGreat.GmSpc
open Go.RowKit YtggiicplcglalaaGreat.All YtggiicplcglalaaGreatW.PrintWords YtggiicplcglalaaGreatW.PrintLast YtggiicplcglalaaGreat.Eqs YtggiicplcglalaaGreat.GmDet YtggiicplcglalaaGreat.GmRed YtggiicplcglalaaGreat.LH YtggiicplcglalaaGreat.GmDot YtggiicplcglalaaGreat.GmFig YtggiicplcglalaaGreat.GmPut YtggiicplcglalaaGreat.GmImp YtggiicplcglalaaGreat.GmFo
set_option linter.unusedVariables false
set_option linter.unusedSimpArgs false
set_option linter.unusedSectionVars false
theorem AF {i : Nat} (h : i ≤ 1000000000) : wrap64 (i : Int) = (i : Int) := dC (by omega) (by omega)
theorem MG (i j : Nat) (h : i + j ≤ 1000000000) : wrap64 ((i : Int) + (j : Int)) = ((i + j : Nat) : Int) := by
 have := AF h
 rwa [Int.natCast_add] at this
theorem fC (i : Nat) (h : i + 1 ≤ 1000000000) : wrap64 ((i : Int) + 1) = ((i + 1 : Nat) : Int) := MG i 1 h
theorem ad2 {s P : Int} {i : Nat} (h1 : s.natAbs ≤ i * 19000000000) (h2 : P.natAbs ≤ 19000000000) : (s + P).natAbs ≤ (i + 1) * 19000000000 := by
 have := Int.natAbs_add_le s P
 omega
theorem ad3 {s : Int} {i : Nat} (hi : i ≤ 1000) (h : s.natAbs ≤ i * 19000000000) : wrap64 s = s := dC (by omega) (by omega)
theorem akS {E D Q : Int} (e : E = Q - D) (h : D > Q) : E < 0 := by omega
theorem arF {E D Q : Int} (e : E = Q - D) (h : ¬ D > Q) : 0 ≤ E := by omega
theorem ad4 {E D Q : Int} (e : E = Q - D) (h : D = Q) : E = 0 := by omega
theorem arG {E D Q : Int} (e : E = Q - D) (h : ¬ D = Q) : ¬ E = 0 := by omega
theorem GM {P : Nat → Prop} {i : Nat} (h : ∀ k, k < i → P k) (hi : P i) : ∀ k, k < i + 1 → P k := by
 intro k hk
 by_cases e : k = i
 ·subst e; exact hi
 ·exact h k (by omega)
theorem akT {s : Int} (h : s.natAbs ≤ 19000000000) : wrap64 s = s := dC (by omega) (by omega)
theorem akU (p : List Int) (n : Nat) (hp : p.length = n + 1) (hn : n ≤ 3) (hy : ∀ b ∈ p, b.natAbs ≤ 1000000000) (r : List Int) (hr : r.length = n) (hra : ∀ a ∈ r, a.natAbs ≤ 19) (x6 : List Int) (x9 : Int) (KR : List (List Int)) (Hp td : Int) (v : List Int × Bool)
  (f_ : Ev (fun k => if jM r p > p.getD n 0 then some (([] : List Int), false) else if jM r p = p.getD n 0 then (if x6.length < 17592186044416 then aa.l1 k p (x6 ++ [wrap64 ((n : Int) + x9)]) (n : Int) KR Hp (wrap64 (td + 1)) else none) else aa.l1 k p x6 (n : Int) KR Hp (wrap64 (td + 1))) v) (d : Nat) :
  ∀ (i : Nat) (s : Int), i + d = n → s.natAbs ≤ i * 19000000000 → s + jM (r.drop i) (p.drop i) = jM r p → Ev (fun k => aa.l2 k p x6 (n : Int) x9 s KR Hp td r (r.length : Int) (i : Int)) v := by
 induction d with
 | zero =>
  intro i s hi hs he
  rw [List.drop_eq_nil_of_le (show r.length ≤ i by omega)] at he
  simp only [jM, Int.add_zero] at he
  subst he
  have h1 : n < p.length := by omega
  refine Ev.step (fun k => ?_) f_
  simp only [aa.l2]
  rw [if_neg (by omega), if_pos (by omega), if_pos (by omega), b9 h1, jx h1]
 | succ d ih =>
  intro i s hi hs he
  have h1 : i < r.length := by omega
  have h2 : i < p.length := by omega
  have hi1 : i + 1 ≤ 1000 := by omega
  have hd1 : i + 1 + d = n := by omega
  have ei := fC i (by omega)
  have b1 := D4 (hra _ (List.getElem_mem h1)) (hy _ (List.getElem_mem h2))
  rw [List.drop_eq_getElem_cons h1, List.drop_eq_getElem_cons h2] at he
  simp only [jM] at he
  generalize hP : r[i] * p[i] = P at b1 he
  have b2 := ad2 hs b1
  have e1 := akT b1
  have e2 := ad3 hi1 b2
  rw [← Int.add_assoc] at he
  have key := ih (i + 1) (s + P) hd1 b2 he
  clear hs b1 b2 he ih f_
  refine Ev.step (fun k => ?_) key
  simp only [aa.l2]
  rw [if_pos (by omega), if_pos (by omega), if_pos (by omega), if_pos (by omega), b9 h1, b9 h2, hP, e1, e2, ei]
def pR (F : Nat → H) (x : H) (i : Nat) : List Int := ((List.range i).filter fun j => decide (ev (F j) x = 0)).map Int.ofNat
theorem AG (F : Nat → H) (x : H) (i : Nat) : pR F x (i + 1) = if ev (F i) x = 0 then pR F x i ++ [(i : Int)] else pR F x i := by
 unfold pR
 rw [List.range_succ, List.filter_append, List.map_append]
 by_cases c : ev (F i) x = 0
 ·rw [if_pos c]; simp [c]
 ·rw [if_neg c]; simp [c]
theorem wO (F : Nat → H) (x : H) (i : Nat) : (pR F x i).length ≤ i := by
 unfold pR
 rw [List.length_map]
 exact Nat.le_trans (List.length_filter_le _ _) (by simp)
def vA (F : Nat → H) (N : Nat) (x : H) : Bool := (List.range N).all fun k => decide (0 ≤ ev (F k) x)
theorem r9 (F : Nat → H) (N : Nat) (x : H) : vA F N x = true ↔ ∀ k, k < N → 0 ≤ ev (F k) x := by
 unfold vA
 rw [List.all_eq_true]
 exact ⟨fun h k hk => of_decide_eq_true (h k (List.mem_range.2 hk)), fun h k hk => decide_eq_true (h k (List.mem_range.1 hk))⟩
theorem MH {F : Nat → H} {N k : Nat} {x : H} (hk : k < N) (h : ev (F k) x < 0) : vA F N x = false := by
 cases c : vA F N x with
 | false => rfl
 | true => have := (r9 F N x).1 c k hk; omega
section
variable {n m : Nat} (hn : d3 n) (hm : d3 m) {M : List (List Int)} (hM : uw n m M) {p : List Int} (hp : p.length = n + 1) (hy : ∀ b ∈ p, b.natAbs ≤ 1000000000)
include hn hm hM hp hy
theorem ad5 {k : Nat} (hk : k < m) : ev (FA n M (n + k)) (e6 p) = p.getD n 0 - jM (M.getD k []) p := by
 unfold FA
 rw [if_neg (by omega), show n + k - n = k by omega]
 have hr := (hM.2 _ (GmFig.ic (show k < M.length by rw [hM.1]; exact hk))).1
 rw [zv hn 1 (-1) hr hp]
 unfold D5
 rw [hr]
 omega
theorem akV (d : Nat) : ∀ i : Nat, i + d = m → (∀ k, k < n + i → 0 ≤ ev (FA n M k) (e6 p)) → Ev (fun k => aa.l1 k p (pR (FA n M) (e6 p) (n + i)) (n : Int) M (m : Int) (i : Int)) (if vA (FA n M) (n + m) (e6 p) = true then (pR (FA n M) (e6 p) (n + m), true) else ([], false)) := by
 have yY : n ≤ 3 := by rcases hn with h | h | h <;> omega
 have GL : m ≤ 3 := by rcases hm with h | h | h <;> omega
 induction d with
 | zero =>
  intro i hi lS
  obtain rfl : i = m := by omega
  rw [if_pos ((r9 _ _ _).2 lS)]
  refine Ev.step (fun k => ?_) (Ev.now _)
  simp only [aa.l1]
  rw [if_neg (by omega)]
 | succ d ih =>
  intro i hi lS
  have him : i < m := by omega
  have hnm : n + i < n + m := by omega
  have kH : (i : Int) < (m : Int) := by omega
  have lu : (0 : Int) ≤ (i : Int) := by omega
  have hb : n + i < 17592186044416 := by omega
  have ei := fC i (by omega)
  have en := MG n i (by omega)
  have h1 : i < M.length := by rw [hM.1]; exact him
  have E5 : (i : Int) < (M.length : Int) := Int.ofNat_lt.mpr h1
  have key := ih (i + 1) (by omega)
  have er : aJ M (i : Int) = M.getD i [] := rfl
  obtain ⟨r1, r2⟩ := hM.2 _ (GmFig.ic h1)
  have r3 : ∀ a ∈ M.getD i [], a.natAbs ≤ 19 := fun a ha => by have := r2 a ha; omega
  have e0 := ad5 hn hm hM hp hy him
  have hlen := Nat.lt_of_le_of_lt (wO (FA n M) (e6 p) (n + i)) hb
  rw [show n + (i + 1) = n + i + 1 from rfl, AG] at key
  refine Ev.step (fun k => ?_) (akU p n hp yY hy (M.getD i []) r1 r3 (pR (FA n M) (e6 p) (n + i)) (i : Int) M (m : Int) (i : Int) _ ?_ n 0 0 (Nat.zero_add n) (by simp) (by simp))
  ·simp only [aa.l1]
   rw [if_pos kH, if_pos lu, if_pos E5, er]
   rfl
  ·by_cases c1 : jM (M.getD i []) p > p.getD n 0
   ·rw [MH hnm (akS e0 c1), if_neg (by decide)]
    exact Ev.congr (fun k => by rw [if_pos c1]) (Ev.now _)
   ·have Df := key (GM lS (arF e0 c1))
    by_cases c2 : jM (M.getD i []) p = p.getD n 0
    ·rw [if_pos (ad4 e0 c2)] at Df
     exact Ev.congr (fun k => by rw [if_neg c1, if_pos c2, if_pos hlen, en, ei]) Df
    ·rw [if_neg (arG e0 c2)] at Df
     exact Ev.congr (fun k => by rw [if_neg c1, if_neg c2, ei]) Df
theorem akW (d : Nat) : ∀ i : Nat, i + d = n → (∀ k, k < i → 0 ≤ ev (FA n M k) (e6 p)) → Ev (fun k => aa.l0 k M p (pR (FA n M) (e6 p) i) (n : Int) (i : Int)) (if vA (FA n M) (n + m) (e6 p) = true then (pR (FA n M) (e6 p) (n + m), true) else ([], false)) := by
 have yY : n ≤ 3 := by rcases hn with h | h | h <;> omega
 induction d with
 | zero =>
  intro i hi lS
  obtain rfl : i = n := by omega
  have hz : ¬ (i : Int) < (i : Int) := by omega
  refine Ev.step (fun k => ?_) (akV hn hm hM hp hy m 0 (Nat.zero_add m) lS)
  simp only [aa.l0]
  rw [if_neg hz, hM.1]
  rfl
 | succ d ih =>
  intro i hi lS
  have akX : i < n := by omega
  have hnm : i < n + m := by omega
  have kH : (i : Int) < (n : Int) := by omega
  have lu : (0 : Int) ≤ (i : Int) := by omega
  have hb : i < 17592186044416 := by omega
  have ei := fC i (by omega)
  have h1 : i < p.length := by omega
  have E5 : (i : Int) < (p.length : Int) := Int.ofNat_lt.mpr h1
  have key := ih (i + 1) (by omega)
  have hlen := Nat.lt_of_le_of_lt (wO (FA n M) (e6 p) i) hb
  have e0 : ev (FA n M i) (e6 p) = p[i] := by
   unfold FA
   rw [if_pos akX, sN hn hp akX, jx h1]
  rw [AG] at key
  by_cases c1 : p[i] < 0
  ·rw [MH hnm (by rw [e0]; exact c1), if_neg (by decide)]
   refine Ev.step (fun k => ?_) (Ev.now _)
   simp only [aa.l0]
   rw [if_pos kH, if_pos lu, if_pos E5, b9 h1, if_pos c1]
  ·have Df := key (GM lS (by rw [e0]; exact Int.not_lt.mp c1))
   by_cases c2 : p[i] = 0
   ·rw [if_pos (e0.trans c2)] at Df
    refine Ev.step (fun k => ?_) Df
    simp only [aa.l0]
    rw [if_pos kH, if_pos lu, if_pos E5, b9 h1, if_neg c1, if_pos c2, if_pos hlen, ei]
   ·rw [if_neg (fun h => c2 (e0.symm.trans h))] at Df
    refine Ev.step (fun k => ?_) Df
    simp only [aa.l0]
    rw [if_pos kH, if_pos lu, if_pos E5, b9 h1, if_neg c1, if_neg c2, ei]
theorem SL : Ev (fun k => aa.f k M p) (if vA (FA n M) (n + m) (e6 p) = true then (pR (FA n M) (e6 p) (n + m), true) else ([], false)) := by
 have yY : n ≤ 3 := by rcases hn with h | h | h <;> omega
 refine Ev.congr (fun k => ?_) (akW hn hm hM hp hy n 0 (by omega) (by omega))
 unfold aa.f
 have : wrap64 ((p.length : Int) - 1) = (n : Int) := by rw [hp, show ((n + 1 : Nat) : Int) - 1 = (n : Int) by omega]; exact AF (by omega)
 rw [this]
 rfl
end
theorem WU (a b : List Int) (Lo : a.length = b.length) (hl : a.length ≤ 1000) (d : Nat) : ∀ i : Nat, i + d = a.length → Ev (fun k => bt.l0 k a b (a.length : Int) (i : Int)) (iq (a.drop i) (b.drop i)) := by
 induction d with
 | zero =>
  intro i hi
  rw [List.drop_eq_nil_of_le (by omega), List.drop_eq_nil_of_le (by omega)]
  refine Ev.step (fun k => ?_) (Ev.now _)
  simp only [bt.l0]
  rw [if_neg (by omega)]
  rfl
 | succ d ih =>
  intro i hi
  have h1 : i < a.length := by omega
  have h2 : i < b.length := by omega
  have ei := fC i (by omega)
  rw [List.drop_eq_getElem_cons h1, List.drop_eq_getElem_cons h2]
  simp only [iq]
  by_cases c : a[i] = b[i]
  ·rw [if_pos c]
   refine Ev.step (fun k => ?_) (ih (i + 1) (by omega))
   simp only [bt.l0]
   rw [if_pos (by omega), if_pos (by omega), if_pos (by omega), if_pos (by omega), b9 h1, b9 h2, if_pos c, ei]
  ·rw [if_neg c]
   refine Ev.step (fun k => ?_) (Ev.now _)
   simp only [bt.l0]
   rw [if_pos (by omega), if_pos (by omega), if_pos (by omega), if_pos (by omega), b9 h1, b9 h2, if_neg c]
theorem ad6 (a b : List Int) (Lo : a.length = b.length) (hl : a.length ≤ 1000) : Ev (fun k => bt.f k a b) (iq a b) := WU a b Lo hl a.length 0 (by omega)
theorem WV (a b : List Int) (Lo : a.length = b.length) (hl : a.length ≤ 1048576) (d : Nat) : ∀ i : Nat, i + d = a.length → Ev (fun k => b7.l0 k a b (a.length : Int) (i : Int)) (decide (a.drop i = b.drop i)) := by
 induction d with
 | zero =>
  intro i hi
  rw [List.drop_eq_nil_of_le (by omega), List.drop_eq_nil_of_le (by omega)]
  refine Ev.step (fun k => ?_) (Ev.now _)
  simp only [b7.l0]
  rw [if_neg (by omega)]
  rfl
 | succ d ih =>
  intro i hi
  have h1 : i < a.length := by omega
  have h2 : i < b.length := by omega
  have ei := fC i (by omega)
  rw [List.drop_eq_getElem_cons h1, List.drop_eq_getElem_cons h2]
  by_cases c : a[i] = b[i]
  ·have e : decide (a[i] :: a.drop (i + 1) = b[i] :: b.drop (i + 1)) = decide (a.drop (i + 1) = b.drop (i + 1)) := by rw [c, decide_eq_decide, List.cons.injEq]; exact ⟨fun h => h.2, fun h => ⟨rfl, h⟩⟩
   rw [e]
   refine Ev.step (fun k => ?_) (ih (i + 1) (by omega))
   simp only [b7.l0]
   rw [if_pos (by omega), if_pos (by omega), if_pos (by omega), if_pos (by omega), b9 h1, b9 h2, if_pos c, ei]
  ·have e : decide (a[i] :: a.drop (i + 1) = b[i] :: b.drop (i + 1)) = false := decide_eq_false fun e => c (List.cons.inj e).1
   rw [e]
   refine Ev.step (fun k => ?_) (Ev.now _)
   simp only [b7.l0]
   rw [if_pos (by omega), if_pos (by omega), if_pos (by omega), if_pos (by omega), b9 h1, b9 h2, if_neg c]
theorem SM (a b : List Int) (hl : a.length ≤ 1048576) : Ev (fun k => b7.f k a b) (decide (a = b)) := by
 by_cases c : a.length = b.length
 ·refine Ev.congr (fun k => ?_) (WV a b c hl a.length 0 (by omega))
  unfold b7.f
  rw [if_pos (by omega)]
  rfl
 ·have e : decide (a = b) = false := decide_eq_false fun e => c (by rw [e])
  rw [e]
  refine Ev.congr (fun k => ?_) (Ev.now _)
  unfold b7.f
  rw [if_neg (by omega)]
theorem ad7 (L : List (List Int)) (p : List Int) (hL : ∀ a ∈ L, a.length = p.length) (hp : p.length ≤ 1000) (hl : L.length ≤ 1000) (d : Nat) : ∀ i : Nat, i + d = L.length → Ev (fun k => cS.l0 k L p (i : Int)) (L.take i ++ my (L.drop i) p) := by
 induction d with
 | zero =>
  intro i hi
  have e1 : L.drop i = [] := List.drop_eq_nil_of_le (by omega)
  have e2 : L.take i = L := List.take_of_length_le (by omega)
  rw [e1, e2]
  refine Ev.step (fun k => ?_) (Ev.now _)
  simp only [cS.l0, Option.bind_some, List.nil_append, Int.toNat_natCast]
  rw [if_neg (by omega), if_pos (by omega), if_pos (by omega), e1, e2, if_pos (by simp; omega), if_pos (by omega), if_pos (by simp; omega), List.append_nil]
  rfl
 | succ d ih =>
  intro i hi
  have h1 : i < L.length := by omega
  have ei := fC i (by omega)
  have er : aJ L (i : Int) = L[i] := by simp [aJ, List.getD, List.getElem?_eq_getElem h1]
  have hla := hL _ (List.getElem_mem h1)
  have akY := ad6 L[i] p hla (by omega)
  have akZ := SM L[i] p (by omega)
  have hd : L.drop i = L[i] :: L.drop (i + 1) := List.drop_eq_getElem_cons h1
  have fv : decide ((i : Int) < (L.length : Int)) = true := decide_eq_true (by omega)
  refine Ev.step (fun k => by simp only [cS.l0]; rw [if_pos (by omega), if_pos (by omega), er]) (Ev.bind akY ?_)
  cases c : iq L[i] p with
  | true =>
   have key := ih (i + 1) (by omega)
   have e : L.take (i + 1) ++ my (L.drop (i + 1)) p = L.take i ++ my (L.drop i) p := by
    rw [hd, OH _ c, List.take_succ_eq_append_getElem h1, List.append_assoc]
    rfl
   rw [e] at key
   simp only [if_true]
   rw [ei]
   exact key
  | false =>
   simp only [Bool.false_eq_true, if_false]
   refine Ev.bind akZ ?_
   by_cases e : L[i] = p
   ·rw [decide_eq_true e]
    simp only [if_true]
    have e2 : L.take i ++ my (L.drop i) p = L := by
     rw [hd]
     unfold my
     rw [if_neg (by rw [c]; decide), if_pos e, ← hd, List.take_append_drop]
    rw [e2]
    exact Ev.now _
   ·rw [decide_eq_false e]
    have e2 : my (L.drop i) p = p :: L.drop i := by
     rw [hd]
     unfold my
     rw [if_neg (by rw [c]; decide), if_neg e]
    rw [e2]
    simp only [Bool.false_eq_true, if_false, Option.bind_some, List.nil_append, Int.toNat_natCast]
    refine Ev.congr (fun k => ?_) (Ev.now _)
    rw [if_pos (by omega), if_pos (by simp; omega), if_pos (by simp; omega), if_pos (by simp; omega), List.append_assoc]
    rfl
theorem ak0 (L : List (List Int)) (p : List Int) (hL : ∀ a ∈ L, a.length = p.length) (hp : p.length ≤ 1000) (hl : L.length ≤ 1000) : Ev (fun k => cS.f k L p) (my L p) := by
 have := ad7 L p hL hp hl L.length 0 (by omega)
 exact this
end Go.Proofs.YtggiicplcglalaaGreat.GmSpc
end
section
namespace Go.Proofs.YtggiicplcglalaaGreat.GmSpc
open Go.RowKit YtggiicplcglalaaGreat.All YtggiicplcglalaaGreatW.PrintWords YtggiicplcglalaaGreatW.PrintLast YtggiicplcglalaaGreat.Eqs YtggiicplcglalaaGreat.GmDet YtggiicplcglalaaGreat.GmRed YtggiicplcglalaaGreat.LH YtggiicplcglalaaGreat.GmDot YtggiicplcglalaaGreat.GmFig YtggiicplcglalaaGreat.GmPut YtggiicplcglalaaGreat.GmImp YtggiicplcglalaaGreat.GmFo
set_option linter.unusedVariables false
set_option linter.unusedSimpArgs false
set_option linter.unusedSectionVars false
theorem Dg (a : Int) (h : a.natAbs ≤ 1000000000) : eW.f a = some ((a.natAbs : Nat) : Int) := by
 unfold eW.f k8.f
 rw [dC (x := -a) (by omega) (by omega)]
 by_cases c : a > -a
 ·rw [if_pos c, Option.bind_some]; congr 1; omega
 ·rw [if_neg c, Option.bind_some]; congr 1; omega
theorem WW {i n : Nat} (h : i < n) (hn : n ≤ 1000) : je.f (n : Int) (i : Int) = some (j6 n i) := by
 unfold je.f
 rw [if_pos (by omega), if_pos (by omega), Option.bind_some, if_pos (by omega), if_pos (by simp; omega), Int.toNat_natCast, Int.toNat_natCast]
 rfl
theorem ad9 (s i : Nat) (hi : i ≤ 60) : Int.tmod (shr .i64 (s : Int) (i : Int)) 2 = ((s / 2 ^ i % 2 : Nat) : Int) := by
 have e : shr .i64 (s : Int) (i : Int) = ((s / 2 ^ i : Nat) : Int) := by
  show (s : Int) / (2 : Int) ^ min (i : Int).toNat 64 = _
  rw [Int.toNat_natCast, Nat.min_eq_left (by omega), Int.natCast_ediv, Int.natCast_pow]
  rfl
 rw [e]
 rfl
def pc (S : List Cd) (c : Nat) : Int := if fB (S.map (·.1)) < 0 then -fB (jg c S) else fB (jg c S)
theorem Dh (S : List Cd) : fc S = (List.range S.length).map (pc S) ++ [((fB (S.map (·.1))).natAbs : Int)] := rfl
def OT (n : Nat) (S : List Cd) : Prop := S.length = n ∧ ∀ q ∈ S, q.1.length = n ∧ (∀ a ∈ q.1, a.natAbs ≤ 19) ∧ q.2.natAbs ≤ 19
theorem OT.rows {n : Nat} {x0 : List Cd} (h : OT n x0) : (x0.map (·.1)).length = n ∧ ∀ r ∈ x0.map (·.1), r.length = n ∧ ∀ a ∈ r, a.natAbs ≤ 19 := by
 refine ⟨by simp [h.1], fun r hr => ?_⟩
 obtain ⟨q, hq, rfl⟩ := List.mem_map.1 hr
 exact ⟨(h.2 q hq).1, (h.2 q hq).2.1⟩
theorem OT.BH {n : Nat} {x0 : List Cd} (h : OT n x0) (c : Nat) : (jg c x0).length = n ∧ ∀ r ∈ jg c x0, r.length = n ∧ ∀ a ∈ r, a.natAbs ≤ 19 := by
 refine ⟨by simp [jg, h.1], fun r hr => ?_⟩
 obtain ⟨q, hq, rfl⟩ := List.mem_map.1 hr
 obtain ⟨a, b, c'⟩ := h.2 q hq
 refine ⟨by simp [a], fun z hz => ?_⟩
 rcases List.mem_or_eq_of_mem_set hz with h | h
 ·exact b z h
 ·subst h; exact c'
theorem OT.det {n : Nat} (hn : d3 n) {S : List Cd} (h : OT n S) : (fB (S.map (·.1))).natAbs ≤ 185193 := (mH hn h.rows.1 h.rows.2).1
theorem OT.pc {n : Nat} (hn : d3 n) {S : List Cd} (h : OT n S) (c : Nat) : (pc S c).natAbs ≤ 185193 := by
 have := (mH hn (h.BH c).1 (h.BH c).2).1
 unfold GmSpc.pc
 split <;> omega
theorem OT.fc {n : Nat} (hn : d3 n) {S : List Cd} (h : OT n S) : ∀ b ∈ LH.fc S, b.natAbs ≤ 185193 := by
 intro b hb
 rw [Dh] at hb
 rcases List.mem_append.1 hb with c | c
 ·obtain ⟨j, _, rfl⟩ := List.mem_map.1 c
  exact h.pc hn j
 ·have := h.det hn
  have e : b = ((fB (S.map (·.1))).natAbs : Int) := by simpa using c
  omega
theorem ak1 {a : Int} (h : a.natAbs ≤ 185193) : wrap64 a = a := dC (by omega) (by omega)
theorem ak2 {a : Int} (h : a.natAbs ≤ 185193) : wrap64 (-a) = -a := dC (by omega) (by omega)
theorem ak3 {n : Nat} (hn : d3 n) (M : List (List Int)) (x4 : List (List Int)) (x5 : Int) (S : List Cd) (hS : OT n S) (iM : List Int) (g : Nat) (c : Nat) (hc : c < n) (hx : iM.length ≤ 100) (v : List (List Int))
  (f_ : Ev (fun k => aE.l2 k M (n : Int) x4 x5 (S.map (·.1)) (S.map (·.2)) (fB (S.map (·.1))) (iM ++ [pc S c]) ((Nat.gcd g (pc S c).natAbs : Nat) : Int) ((c + 1 : Nat) : Int)) v) (d : Nat) :
  ∀ i : Nat, i + d = n → Ev (fun k => aE.l3 k M (n : Int) x4 x5 (S.map (·.1)) (S.map (·.2)) (fB (S.map (·.1))) iM (g : Int) (c : Int) (jg c (S.take i)) ((S.map (·.1)).length : Int) (i : Int)) v := by
 have yY : n ≤ 3 := by rcases hn with h | h | h <;> omega
 have hl := hS.1
 induction d with
 | zero =>
  intro i hi
  rw [List.take_of_length_le (by omega)]
  have hz : ¬ (i : Int) < ((S.map (·.1)).length : Int) := by rw [List.length_map]; omega
  have ec := fC c (by omega)
  have T9 : iM.length < 17592186044416 := by omega
  have hd := mH hn (hS.BH c).1 (hS.BH c).2
  refine Ev.step (f := fun k => (aI.f k (jg c S)).bind fun t245 => (if fB (S.map (·.1)) < 0 then (if iM.length < 17592186044416 then ((eW.f (wrap64 (-t245))).bind fun t249 => ((bs.f k (g : Int) t249).bind fun arH => (aE.l2 k M (n : Int) x4 x5 (S.map (·.1)) (S.map (·.2)) (fB (S.map (·.1))) (iM ++ [wrap64 (-t245)]) arH (wrap64 ((c : Int) + 1))))) else (none)) else (if iM.length < 17592186044416 then ((eW.f t245).bind fun arI => ((bs.f k (g : Int) arI).bind fun arJ => (aE.l2 k M (n : Int) x4 x5 (S.map (·.1)) (S.map (·.2)) (fB (S.map (·.1))) (iM ++ [t245]) arJ (wrap64 ((c : Int) + 1))))) else (none)))) (fun k => ?_) (Ev.bind hd.2 ?_)
  ·simp only [aE.l3]
   rw [if_neg hz]
  ·rw [ec]
   have hp := hS.pc hn c
   unfold pc at f_ hp
   by_cases c9 : fB (S.map (·.1)) < 0
   ·simp only [if_pos c9, if_pos T9] at f_ hp ⊢
    simp only [ak2 hd.1, Dg _ (Nat.le_trans hp (by decide)), Option.bind_some]
    exact Ev.bind (Lr _ _) f_
   ·simp only [if_neg c9, if_pos T9] at f_ hp ⊢
    simp only [Dg _ (Nat.le_trans hp (by decide)), Option.bind_some]
    exact Ev.bind (Lr _ _) f_
 | succ d ih =>
  intro i hi
  have h1 : i < S.length := by omega
  have kH : (i : Int) < ((S.map (·.1)).length : Int) := by rw [List.length_map]; omega
  have lu : (0 : Int) ≤ (i : Int) := by omega
  have E5 : (i : Int) < ((S.map (·.2)).length : Int) := by rw [List.length_map]; omega
  have hz4 : (0 : Int) ≤ (c : Int) := by omega
  have ei := fC i (by omega)
  obtain ⟨q1, q2, q3⟩ := hS.2 _ (List.getElem_mem h1)
  have hz5 : (c : Int) < ((S[i]).1.length : Int) := by rw [q1]; omega
  have hz6 : (jg c (S.take i)).length < 5864062014805 := by
   unfold jg
   rw [List.length_map, List.length_take]
   omega
  have er : aJ (S.map (·.1)) (i : Int) = (S[i]).1 := by simp [aJ, List.getD, List.getElem?_eq_getElem h1]
  have er2 : rd (S.map (·.2)) (i : Int) = (S[i]).2 := by
   rw [b9 (show i < (S.map (·.2)).length by simpa using h1)]
   simp
  have ik : jD.f (S[i]).1 = some (S[i]).1 := R6 _ (by rw [q1]; omega)
  refine Ev.step (fun k => ?_) (ih (i + 1) (by omega))
  simp only [aE.l3]
  rw [if_pos kH, if_pos lu, if_pos kH, er, ik, Option.bind_some, if_pos E5, if_pos hz4, if_pos hz5, if_pos hz6, er2, ei, Int.toNat_natCast]
  unfold jg
  rw [List.take_succ_eq_append_getElem h1, List.map_append]
  rfl
def tT (S : List Cd) (c : Nat) : Nat := ((List.range c).map (pc S)).foldl (fun g x => Nat.gcd g x.natAbs) (fB (S.map (·.1))).natAbs
theorem GN (S : List Cd) (c : Nat) : tT S (c + 1) = Nat.gcd (tT S c) (pc S c).natAbs := by
 unfold tT
 rw [List.range_succ, List.map_append, List.foldl_append]
 rfl
theorem Di (q : List Int) : ∀ d : Nat, q.foldl (fun g x => Nat.gcd g x.natAbs) d = Nat.gcd d (q.foldl (fun g x => Nat.gcd g x.natAbs) 0) := by
 induction q with
 | nil => intro d; simp
 | cons a q ih =>
  intro d
  simp only [List.foldl_cons]
  rw [ih (Nat.gcd d a.natAbs), ih (Nat.gcd 0 a.natAbs), Nat.gcd_zero_left, Nat.gcd_assoc]
theorem JN {n : Nat} (S : List Cd) (hS : S.length = n) : tT S n = gG (fc S) := by
 unfold tT gG
 rw [Dh, hS, List.foldl_append, Di, Nat.gcd_comm]
 simp
theorem SN (g : Int) (q : List Int) (i : Nat) (h : i < q.length) : ((q.take i).map (fun a => a / g) ++ q.drop i).set i (q[i] / g) = (q.take (i + 1)).map (fun a => a / g) ++ q.drop (i + 1) := by
 rw [List.set_append, if_neg (by simp; omega), List.drop_eq_getElem_cons h, List.take_succ_eq_append_getElem h, List.map_append, List.append_assoc]
 have : i - (List.map (fun a => a / g) (q.take i)).length = 0 := by simp; omega
 rw [this]
 rfl
theorem BL (f : Int → Int) (q : List Int) (i : Nat) (h : i < q.length) (h2 : i < ((q.take i).map f ++ q.drop i).length) : ((q.take i).map f ++ q.drop i)[i] = q[i] := by
 rw [List.getElem_append_right (by simp; omega), List.getElem_drop]
 have e : i + (i - (List.map f (q.take i)).length) = i := by simp; omega
 simp only [e]
theorem OU {g x : Int} (hg : 0 < g) (h : g ∣ x) (hx : x.natAbs ≤ 185193) : wrap64 (Int.tdiv x g) = x / g := by
 rw [Int.tdiv_eq_ediv_of_dvd h]
 obtain ⟨y, rfl⟩ := h
 rw [Int.mul_ediv_cancel_left _ (by omega)]
 rw [Int.natAbs_mul] at hx
 have : y.natAbs ≤ g.natAbs * y.natAbs := Nat.le_mul_of_pos_left _ (by omega)
 exact ak1 (by omega)
section
variable {n m : Nat} (hn : d3 n) (hm : d3 m) {M : List (List Int)} (hM : uw n m M)
include hn hm hM
theorem ak4 (x4 : List (List Int)) (x5 : Int) (q : List Int) (hq : q.length = n + 1) (hy : ∀ b ∈ q, b.natAbs ≤ 185193) (hg : 0 < gG q) (hx4 : ∀ a ∈ x4, a.length = n + 1) (hl4 : x4.length ≤ 1000) (v : List (List Int))
  (f_ : Ev (fun k => aE.l0 k M (n : Int) (if vA (FA n M) (n + m) (e6 (pO q)) = true then my x4 (pO q) else x4) (wrap64 (x5 + 1))) v) (d : Nat) :
  ∀ i : Nat, i + d = q.length → Ev (fun k => aE.l4 k M (n : Int) x4 x5 ((q.take i).map (fun a => a / (gG q : Int)) ++ q.drop i) (gG q : Int) (q.length : Int) (i : Int)) v := by
 have yY : n ≤ 3 := by rcases hn with h | h | h <;> omega
 induction d with
 | zero =>
  intro i hi
  rw [List.take_of_length_le (by omega), List.drop_eq_nil_of_le (by omega), List.append_nil]
  have hz : ¬ (i : Int) < (q.length : Int) := by omega
  have hrl : (pO q).length = n + 1 := by rw [yX, hq]
  have JO := SL hn hm hM hrl (fun b hb => Nat.le_trans (Rj q _ hy b hb) (by decide))
  have SO := ak0 x4 (pO q) (fun a ha => by rw [hx4 a ha, hrl]) (by rw [hrl]; omega) hl4
  refine Ev.step (f := fun k => (aa.f k M (pO q)).bind fun ak5 => (if ak5.2 = true then ((cS.f k x4 (pO q)).bind fun arK => (aE.l0 k M (n : Int) arK (wrap64 (x5 + 1)))) else (aE.l0 k M (n : Int) x4 (wrap64 (x5 + 1))))) (fun k => ?_) (Ev.bind JO ?_)
  ·simp only [aE.l4]
   rw [if_neg hz]
   rfl
  ·cases c : vA (FA n M) (n + m) (e6 (pO q)) with
   | true =>
    rw [c] at f_
    simp only [if_true] at f_ ⊢
    exact Ev.bind SO f_
   | false =>
    rw [c] at f_
    simp only [Bool.false_eq_true, if_false] at f_ ⊢
    exact f_
 | succ d ih =>
  intro i hi
  have h1 : i < q.length := by omega
  have kH : (i : Int) < (q.length : Int) := by omega
  have lu : (0 : Int) ≤ (i : Int) := by omega
  have ei := fC i (by omega)
  have hg0 : (0 : Int) < (gG q : Int) := by omega
  have Tj : ¬ (gG q : Int) = 0 := by omega
  have hlen : ((q.take i).map (fun a => a / (gG q : Int)) ++ q.drop i).length = q.length := by simp; omega
  have E5 : (i : Int) < ((((q.take i).map (fun a => a / (gG q : Int)) ++ q.drop i).length : Nat) : Int) := by rw [hlen]; exact kH
  have key := ih (i + 1) (by omega)
  have er : rd ((q.take i).map (fun a => a / (gG q : Int)) ++ q.drop i) (i : Int) = q[i] := by
   have h2 : i < ((q.take i).map (fun a => a / (gG q : Int)) ++ q.drop i).length := by rw [hlen]; exact h1
   rw [b9 h2, BL _ q i h1 h2]
  have hw := OU hg0 (Fo (List.getElem_mem h1)) (hy _ (List.getElem_mem h1))
  refine Ev.step (fun k => ?_) key
  simp only [aE.l4]
  rw [if_pos kH, if_pos lu, if_pos E5, if_neg Tj, er, hw, Int.toNat_natCast, SN _ q i h1, ei]
theorem ak6 (x4 : List (List Int)) (x5 : Int) (S : List Cd) (hS : OT n S) (h0 : fB (S.map (·.1)) ≠ 0) (hx4 : ∀ a ∈ x4, a.length = n + 1) (hl4 : x4.length ≤ 1000) (v : List (List Int))
  (f_ : Ev (fun k => aE.l0 k M (n : Int) (if vA (FA n M) (n + m) (e6 (pO (fc S))) = true then my x4 (pO (fc S)) else x4) (wrap64 (x5 + 1))) v) (d : Nat) :
  ∀ c : Nat, c + d = n → Ev (fun k => aE.l2 k M (n : Int) x4 x5 (S.map (·.1)) (S.map (·.2)) (fB (S.map (·.1))) ((List.range c).map (pc S)) ((tT S c : Nat) : Int) (c : Int)) v := by
 have yY : n ≤ 3 := by rcases hn with h | h | h <;> omega
 induction d with
 | zero =>
  intro c hc
  obtain rfl : c = n := by omega
  have hz : ¬ (c : Int) < (c : Int) := by omega
  have t_ : (fc S).length = c + 1 := by rw [n3, hS.1]
  have PA : ((List.range c).map (pc S)).length < 17592186044416 := by rw [List.length_map, List.length_range]; omega
  have ak7 : fc S = (List.range c).map (pc S) ++ [((fB (S.map (·.1))).natAbs : Int)] := by rw [Dh, hS.1]
  obtain ⟨x, hx, Fy⟩ := sH hn t_ (pP hn hS.1 h0)
  have hgp := um hx Fy
  have h4 := ak4 hn hm hM x4 x5 (fc S) t_ (hS.fc hn) hgp hx4 hl4 v f_ (fc S).length 0 (Nat.zero_add _)
  rw [JN S hS.1]
  refine Ev.step (fun k => ?_) h4
  simp only [aE.l2]
  rw [if_neg hz, Dg _ (Nat.le_trans (hS.det hn) (by decide)), Option.bind_some, if_pos PA, Option.bind_some, ← ak7]
  rfl
 | succ d ih =>
  intro c hc
  have hcn : c < n := by omega
  have hz : (c : Int) < (n : Int) := by omega
  have hx : ((List.range c).map (pc S)).length ≤ 100 := by rw [List.length_map, List.length_range]; omega
  have key := ih (c + 1) (by omega)
  rw [GN, List.range_succ, List.map_append] at key
  have h3 := ak3 hn M x4 x5 S hS ((List.range c).map (pc S)) (tT S c) c hcn hx v key n 0 (Nat.zero_add n)
  refine Ev.step (fun k => ?_) h3
  simp only [aE.l2]
  rw [if_pos hz]
  rfl
def okA (n : Nat) (M : List (List Int)) (S : List Nat) : Bool := decide (S.length = n) && (decide (fB ((S.map (CA n M)).map (·.1)) ≠ 0) && vA (FA n M) (n + M.length) (e6 (pO (fc (S.map (CA n M))))))
def WX (n : Nat) (M : List (List Int)) (L : List (List Int)) (S : List Nat) : List (List Int) := if okA n M S = true then my L (pO (fc (S.map (CA n M)))) else L
omit hn hm hM in
theorem ak8 {n m : Nat} {M : List (List Int)} (hM : uw n m M) {k : Nat} (hk : k < n + m) : (CA n M k).1.length = n ∧ (∀ a ∈ (CA n M k).1, a.natAbs ≤ 19) ∧ (CA n M k).2.natAbs ≤ 19 := by
 unfold CA
 by_cases c : k < n
 ·rw [if_pos c]
  exact ⟨sG _ _, xL _ _, by show (0 : Int).natAbs ≤ 19; decide⟩
 ·rw [if_neg c]
  obtain ⟨a, b⟩ := hM.2 _ (GmFig.ic (show k - n < M.length by rw [hM.1]; omega))
  exact ⟨a, fun x hx => by have := b x hx; omega, by show (1 : Int).natAbs ≤ 19; decide⟩
theorem ak9 (x4 : List (List Int)) (s : Nat) (hx4 : ∀ a ∈ x4, a.length = n + 1) (hl4 : x4.length ≤ 1000) (v : List (List Int))
  (f_ : Ev (fun k => aE.l0 k M (n : Int) (WX n M x4 (gQ (n + m) s)) (wrap64 ((s : Int) + 1))) v) (d : Nat) :
  ∀ i : Nat, i + d = n + m → Ev (fun k => aE.l1 k M (n : Int) x4 (s : Int) (((gQ i s).map (CA n M)).map (·.1)) (((gQ i s).map (CA n M)).map (·.2)) (i : Int)) v := by
 have yY : n ≤ 3 := by rcases hn with h | h | h <;> omega
 have GL : m ≤ 3 := by rcases hm with h | h | h <;> omega
 have hN : wrap64 ((n : Int) + (M.length : Int)) = ((n + m : Nat) : Int) := by rw [hM.1]; exact MG n m (by omega)
 induction d with
 | zero =>
  intro i hi
  obtain rfl : i = n + m := by omega
  have hz : ¬ ((n + m : Nat) : Int) < ((n + m : Nat) : Int) := by omega
  have hSn : ∀ k ∈ gQ (n + m) s, k < n + m := fun k hk => Fv hk
  unfold WX okA at f_
  by_cases hl : (gQ (n + m) s).length = n
  ·have hzl : (((((gQ (n + m) s).map (CA n M)).map (·.1)).length : Nat) : Int) = (n : Int) := by rw [List.length_map, List.length_map, hl]
   have hS : OT n ((gQ (n + m) s).map (CA n M)) := by
    refine ⟨by rw [List.length_map, hl], fun q hq => ?_⟩
    obtain ⟨k, hk, rfl⟩ := List.mem_map.1 hq
    exact ak8 hM (hSn k hk)
   rw [decide_eq_true hl, Bool.true_and, hM.1] at f_
   generalize hSS : (gQ (n + m) s).map (CA n M) = S at f_ hS hzl ⊢
   have hd := mH hn hS.rows.1 hS.rows.2
   refine Ev.step (f := fun k => (aI.f k (S.map (·.1))).bind fun t234 => (if t234 = 0 then (aE.l0 k M (n : Int) x4 (wrap64 ((s : Int) + 1))) else ((eW.f t234).bind fun t235 => (aE.l2 k M (n : Int) x4 (s : Int) (S.map (·.1)) (S.map (·.2)) t234 ([] : List Int) t235 0)))) (fun k => ?_) (Ev.bind hd.2 ?_)
   ·simp only [aE.l1]
    rw [hN, if_neg hz, if_pos hzl]
   ·by_cases c0 : fB (S.map (·.1)) = 0
    ·rw [decide_eq_false (fun h => h c0), Bool.false_and, if_neg (by decide)] at f_
     simp only [if_pos c0]
     exact f_
    ·rw [decide_eq_true c0, Bool.true_and] at f_
     simp only [if_neg c0]
     simp only [Dg _ (Nat.le_trans hd.1 (by decide)), Option.bind_some]
     exact ak6 hn hm hM x4 (s : Int) S hS c0 hx4 hl4 v f_ n 0 (Nat.zero_add n)
  ·have hzl : ¬ (((((gQ (n + m) s).map (CA n M)).map (·.1)).length : Nat) : Int) = (n : Int) := by rw [List.length_map, List.length_map]; omega
   rw [decide_eq_false hl, Bool.false_and, if_neg (by decide)] at f_
   refine Ev.step (fun k => ?_) f_
   simp only [aE.l1]
   rw [hN, if_neg hz, if_neg hzl]
 | succ d ih =>
  intro i hi
  have hz : (i : Int) < ((n + m : Nat) : Int) := by omega
  have lu : (0 : Int) ≤ (i : Int) := by omega
  have ei := fC i (by omega)
  have arL := ad9 s i (by omega)
  have key := ih (i + 1) (by omega)
  have hle : (gQ i s).length ≤ i := by
   unfold gQ
   exact Nat.le_trans (List.length_filter_le _ _) (by simp)
  have hl6 : (((gQ i s).map (CA n M)).map (·.1)).length < 5864062014805 := by rw [List.length_map, List.length_map]; omega
  have hl7 : (((gQ i s).map (CA n M)).map (·.2)).length < 17592186044416 := by rw [List.length_map, List.length_map]; omega
  rw [n5] at key
  refine Ev.step (fun k => ?_) key
  simp only [aE.l1]
  rw [hN, if_pos hz, if_pos lu, arL, ei]
  by_cases c : s / 2 ^ i % 2 = 1
  ·have c' : ¬ ((s / 2 ^ i % 2 : Nat) : Int) = 0 := by rw [c]; decide
   rw [if_neg c', if_pos c]
   by_cases c2 : i < n
   ·have E5 : (i : Int) < (n : Int) := by omega
    rw [if_pos E5, WW c2 (by omega), Option.bind_some, if_pos hl6, if_pos hl7]
    have e : CA n M i = (j6 n i, 0) := by unfold CA; rw [if_pos c2]
    simp only [List.map_append, List.map_cons, List.map_nil, e]
   ·have E5 : ¬ (i : Int) < (n : Int) := by omega
    have ew : wrap64 ((i : Int) - (n : Int)) = ((i - n : Nat) : Int) := by
     rw [show (i : Int) - (n : Int) = ((i - n : Nat) : Int) by omega]
     exact AF (by omega)
    have hz4 : (0 : Int) ≤ ((i - n : Nat) : Int) := by omega
    have hz5 : ((i - n : Nat) : Int) < (M.length : Int) := by rw [hM.1]; omega
    have e : CA n M i = (M.getD (i - n) [], 1) := by unfold CA; rw [if_neg c2]
    rw [if_neg E5, ew, if_pos hz4, if_pos hz5, if_pos hl6, if_pos hl7]
    simp only [List.map_append, List.map_cons, List.map_nil, e]
    rfl
  ·have c' : ((s / 2 ^ i % 2 : Nat) : Int) = 0 := by
    have := Nat.mod_two_eq_zero_or_one (s / 2 ^ i)
    omega
   rw [if_pos c', if_neg c, List.append_nil]
def vB (n m : Nat) (M : List (List Int)) : Nat → List (List Int)
 | 0 => []
 | s + 1 => WX n M (vB n m M s) (gQ (n + m) s)
theorem sO : ∀ s : Nat, qa (vB n m M s) ∧ (vB n m M s).length ≤ s ∧ (∀ a ∈ vB n m M s, a.length = n + 1) ∧ ∀ p, p ∈ vB n m M s ↔ ∃ t, t < s ∧ okA n M (gQ (n + m) t) = true ∧ p = pO (fc ((gQ (n + m) t).map (CA n M)))
 | 0 => ⟨List.Pairwise.nil, Nat.le_refl _, by simp [vB], by simp [vB]⟩
 | s + 1 => by
  obtain ⟨h1, h2, h3, h4⟩ := sO s
  unfold vB WX
  by_cases c : okA n M (gQ (n + m) s) = true
  ·rw [if_pos c]
   have hlen : (pO (fc ((gQ (n + m) s).map (CA n M)))).length = n + 1 := by
    rw [yX, n3, List.length_map]
    unfold okA at c
    rw [Bool.and_eq_true] at c
    rw [of_decide_eq_true c.1]
   refine ⟨xF _ hlen _ h3 h1, ?_, fun a ha => ?_, fun p => ?_⟩
   ·have : ∀ (L : List (List Int)) (q : List Int), (my L q).length ≤ L.length + 1 := by
     intro L q
     induction L with
     | nil => simp [my]
     | cons a L ih => unfold my; split <;> (try split) <;> simp <;> omega
    have := this (vB n m M s) (pO (fc ((gQ (n + m) s).map (CA n M))))
    omega
   ·rcases (uq _ _ _).1 ha with rfl | ha
    ·exact hlen
    ·exact h3 a ha
   ·rw [uq, h4]
    constructor
    ·rintro (rfl | ⟨t, t1, t2, t3⟩)
     ·exact ⟨s, by omega, c, rfl⟩
     ·exact ⟨t, by omega, t2, t3⟩
    ·rintro ⟨t, t1, t2, t3⟩
     by_cases e : t = s
     ·subst e; exact .inl t3
     ·exact .inr ⟨t, by omega, t2, t3⟩
  ·rw [if_neg c]
   refine ⟨h1, by omega, h3, fun p => ?_⟩
   rw [h4]
   constructor
   ·rintro ⟨t, t1, t2, t3⟩
    exact ⟨t, by omega, t2, t3⟩
   ·rintro ⟨t, t1, t2, t3⟩
    by_cases e : t = s
    ·subst e; exact absurd t2 c
    ·exact ⟨t, by omega, t2, t3⟩
omit hM in
theorem aeb : shl .i64 1 ((n + m : Nat) : Int) = ((2 ^ (n + m) : Nat) : Int) := by
 rcases hn with rfl | rfl | rfl <;> rcases hm with rfl | rfl | rfl <;> kernel_rfl
theorem ak_ (d : Nat) : ∀ s : Nat, s + d = 2 ^ (n + m) → Ev (fun k => aE.l0 k M (n : Int) (vB n m M s) (s : Int)) (vB n m M (2 ^ (n + m))) := by
 have yY : n ≤ 3 := by rcases hn with h | h | h <;> omega
 have GL : m ≤ 3 := by rcases hm with h | h | h <;> omega
 have hN : wrap64 ((n : Int) + (M.length : Int)) = ((n + m : Nat) : Int) := by rw [hM.1]; exact MG n m (by omega)
 have hs := aeb hn hm
 have h64 : 2 ^ (n + m) ≤ 2 ^ 6 := Nat.pow_le_pow_right (by decide) (by omega)
 have h0 : (0 : Int) ≤ ((n + m : Nat) : Int) := by omega
 generalize 2 ^ (n + m) = T at hs h64 ⊢
 induction d with
 | zero =>
  intro s he
  obtain rfl : s = T := by omega
  have hz : ¬ (s : Int) < (s : Int) := by omega
  refine Ev.step (fun k => ?_) (Ev.now _)
  simp only [aE.l0]
  rw [hN, hs, if_pos h0, if_neg hz]
 | succ d ih =>
  intro s he
  have hz : (s : Int) < (T : Int) := by omega
  have arM : s ≤ 1000 := by omega
  have key := ih (s + 1) (by omega)
  have es := fC s (by omega)
  obtain ⟨u1, u2, u3, u4⟩ := sO hn hm hM s
  have h1 := ak9 hn hm hM (vB n m M s) s u3 (Nat.le_trans u2 arM) (vB n m M T) (by rw [es]; exact key) (n + m) 0 (Nat.zero_add _)
  refine Ev.step (fun k => ?_) h1
  simp only [aE.l0]
  rw [hN, hs, if_pos h0, if_pos hz]
  rfl
def pT (n m : Nat) (M : List (List Int)) : List (List Int) := vB n m M (2 ^ (n + m))
theorem qh : Ev (fun k => aE.f k M) (pT n m M) := by
 have hn1 : 1 ≤ n := by rcases hn with h | h | h <;> omega
 have hm1 : 0 < m := by rcases hm with h | h | h <;> omega
 have h0 : (0 : Int) < (M.length : Int) := by rw [hM.1]; omega
 have hr := (hM.2 _ (GmFig.ic (show 0 < M.length by rw [hM.1]; exact hm1))).1
 have er : aJ M 0 = M.getD 0 [] := rfl
 refine Ev.congr (fun k => ?_) (ak_ hn hm hM (2 ^ (n + m)) 0 (Nat.zero_add _))
 unfold aE.f
 rw [if_pos h0, er, hr]
 rfl
theorem GO {q : List Int} (hq : q.length = n + 1) (hg : 0 < gG q) (F : Nat → H) (N : Nat) : vA F N (e6 (pO q)) = true ↔ ∀ k, k < N → 0 ≤ ev (F k) (e6 q) := by
 rw [r9]
 have e : ∀ k, ev (F k) (e6 q) = (gG q : Int) * ev (F k) (e6 (pO q)) := fun k => JA hn hq (F k)
 have hg' : (0 : Int) < (gG q : Int) := by omega
 constructor
 ·intro h k hk
  rw [e k]
  exact Int.mul_nonneg (Int.le_of_lt hg') (h k hk)
 ·intro h k hk
  have := h k hk
  rw [e k] at this
  exact Int.nonneg_of_mul_nonneg_right this hg'
theorem mz (p : List Int) : p ∈ pT n m M ↔ eX (FA n M) (n + m) n p := by
 unfold pT
 rw [(sO hn hm hM _).2.2.2]
 have hT := JC (dim := n) (M := M) (fun r hr => (hM.2 r hr).1)
 rw [hM.1] at hT
 rw [tQ hT hn]
 constructor
 ·rintro ⟨t, t1, t2, rfl⟩
  unfold okA at t2
  rw [Bool.and_eq_true, Bool.and_eq_true] at t2
  obtain ⟨a, b, c⟩ := t2
  have hl := of_decide_eq_true a
  have hb := of_decide_eq_true b
  have t_ : ((gQ (n + m) t).map (CA n M)).length = n := by rw [List.length_map, hl]
  have SP : (fc ((gQ (n + m) t).map (CA n M))).length = n + 1 := by rw [n3, t_]
  obtain ⟨x, hx, Fy⟩ := sH hn SP (pP hn t_ hb)
  rw [hM.1] at c
  exact ⟨gQ (n + m) t, hl, OI _ _, fun k hk => Fv hk, hb, (GO hn hm hM SP (um hx Fy) _ _).1 c, rfl⟩
 ·rintro ⟨S, hl, hI, hN, hb, lS, rfl⟩
  obtain ⟨t, t1, rfl⟩ := tS (n + m) S hI hN
  have t_ : ((gQ (n + m) t).map (CA n M)).length = n := by rw [List.length_map, hl]
  have SP : (fc ((gQ (n + m) t).map (CA n M))).length = n + 1 := by rw [n3, t_]
  obtain ⟨x, hx, Fy⟩ := sH hn SP (pP hn t_ hb)
  refine ⟨t, t1, ?_, rfl⟩
  unfold okA
  rw [Bool.and_eq_true, Bool.and_eq_true, hM.1]
  exact ⟨decide_eq_true hl, decide_eq_true hb, (GO hn hm hM SP (um hx Fy) _ _).2 lS⟩
theorem kR : qa (pT n m M) := (sO hn hm hM _).1
end
end Go.Proofs.YtggiicplcglalaaGreat.GmSpc
end
