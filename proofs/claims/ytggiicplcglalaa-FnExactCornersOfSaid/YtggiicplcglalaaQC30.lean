/- Part of the proof that the law FnExactCornersOf answers true for all arguments. -/
import Derived.Test.YtggiicplcglalaaQC29
section
namespace Go.Proofs.Ytggiicplcglalaa.GmFo
open Go.RowKit Go.Proofs.Ytggiicplcglalaa.All Go.Proofs.YtggiicplcglalaaW.PrintWords Go.Proofs.YtggiicplcglalaaW.PrintLast Go.Proofs.Ytggiicplcglalaa.Eqs Go.Proofs.Ytggiicplcglalaa.GmDet Go.Proofs.Ytggiicplcglalaa.GmRed Go.Proofs.Ytggiicplcglalaa.LH Go.Proofs.Ytggiicplcglalaa.GmSol Go.Proofs.Ytggiicplcglalaa.GmDot Go.Proofs.Ytggiicplcglalaa.GmFig Go.Proofs.Ytggiicplcglalaa.GmPut Go.Proofs.Ytggiicplcglalaa.GmImp Go.Proofs.Ytggiicplcglalaa.Games Go.Proofs.Ytggiicplcglalaa.L1
set_option linter.unusedVariables false
set_option linter.unusedSimpArgs false
def Tab (m n : Nat) (a : List (List Int)) : Prop := a.length = m ∧ ∀ r ∈ a, r.length = n ∧ ∀ x ∈ r, -9 ≤ x ∧ x ≤ 9
def d3 (n : Nat) : Prop := n = 1 ∨ n = 2 ∨ n = 3
theorem table_shape {a : List (List Int)} (h : table a = true) : d3 a.length ∧ d3 (a.getD 0 []).length ∧ ∀ r ∈ a, r.length = (a.getD 0 []).length ∧ ∀ x ∈ r, -9 ≤ x ∧ x ≤ 9 := by
 unfold table at h
 rw [Bool.and_eq_true, Bool.and_eq_true] at h
 obtain ⟨h1, h2, h3⟩ := h
 unfold inB at h1 h2
 simp only [Bool.and_eq_true, decide_eq_true_eq] at h1 h2
 refine ⟨by unfold d3; omega, by unfold d3; omega, fun r hr => ?_⟩
 have := List.all_eq_true.mp h3 r hr
 rw [Bool.and_eq_true] at this
 obtain ⟨h4, h5⟩ := this
 refine ⟨by have := of_decide_eq_true h4; omega, fun x hx => ?_⟩
 have := List.all_eq_true.mp h5 x hx
 unfold inB at this
 simp only [Bool.and_eq_true, decide_eq_true_eq] at this
 omega
theorem game_shape {a b : List (List Int)} (h : game a b = true) : ∃ m n, d3 m ∧ d3 n ∧ Tab m n a ∧ Tab m n b ∧ (a.getD 0 []).length = n := by
 unfold game at h
 rw [Bool.and_eq_true, Bool.and_eq_true, Bool.and_eq_true] at h
 obtain ⟨h1, h2, h3, h4⟩ := h
 have h3 := of_decide_eq_true h3
 have h4 := of_decide_eq_true h4
 obtain ⟨a1, a2, a3⟩ := table_shape h1
 obtain ⟨b1, b2, b3⟩ := table_shape h2
 exact ⟨a.length, (a.getD 0 []).length, a1, a2, ⟨rfl, a3⟩, ⟨by omega, fun r hr => ⟨by have := (b3 r hr).1; omega, (b3 r hr).2⟩⟩, rfl⟩
def plus (r : List Int) : List Int := r.map (· + 10)
def colAt (b : List (List Int)) (j : Nat) : List Int := b.map fun r => r.getD j 0
def M1 (n : Nat) (b : List (List Int)) : List (List Int) := (List.range n).map fun j => plus (colAt b j)
def M2 (a : List (List Int)) : List (List Int) := a.map plus
def Sums (dim m : Nat) (M : List (List Int)) : Prop := M.length = m ∧ ∀ r ∈ M, r.length = dim ∧ ∀ x ∈ r, 1 ≤ x ∧ x ≤ 19
theorem getD_of {r : List Int} {j : Nat} (h : j < r.length) : r.getD j 0 = r[j] := by simp [List.getD, List.getElem?_eq_getElem h]
theorem sums1 {m n : Nat} {b : List (List Int)} (h : Tab m n b) : Sums m n (M1 n b) := by
 refine ⟨by simp [M1], fun r hr => ?_⟩
 obtain ⟨j, hj, rfl⟩ := List.mem_map.1 hr
 have hj := List.mem_range.1 hj
 refine ⟨by simp [plus, colAt, h.1], fun x hx => ?_⟩
 obtain ⟨y, hy, rfl⟩ := List.mem_map.1 hx
 obtain ⟨q, hq, rfl⟩ := List.mem_map.1 hy
 obtain ⟨q1, q2⟩ := h.2 q hq
 have hj' : j < q.length := by omega
 have := q2 _ (List.getElem_mem hj')
 rw [getD_of hj']
 omega
theorem sums2 {m n : Nat} {a : List (List Int)} (h : Tab m n a) : Sums n m (M2 a) := by
 refine ⟨by simp [M2, h.1], fun r hr => ?_⟩
 obtain ⟨q, hq, rfl⟩ := List.mem_map.1 hr
 obtain ⟨q1, q2⟩ := h.2 q hq
 refine ⟨by simp [plus, q1], fun x hx => ?_⟩
 obtain ⟨y, hy, rfl⟩ := List.mem_map.1 hx
 have := q2 y hy
 omega
def mkU (n : Nat) : List Cn := (List.range n).map fun i => ⟨unitR n i, 0, true⟩
def mkR (M : List (List Int)) : List Cn := M.map fun r => ⟨r, 1, false⟩
def listA (n : Nat) (M : List (List Int)) : List Cn := mkU n ++ mkR M
def listB (n : Nat) (M : List (List Int)) : List Cn := mkR M ++ mkU n
theorem cnA {n : Nat} {M : List (List Int)} {k : Nat} (h : k < n + M.length) : cnAt (listA n M) k = if k < n then ⟨unitR n k, 0, true⟩ else ⟨M.getD (k - n) [], 1, false⟩ := by
 have hl : (listA n M).length = n + M.length := by simp [listA, mkU, mkR]
 rw [cnAt_get (by omega)]
 unfold listA
 by_cases c : k < n
 ·rw [if_pos c, List.getElem_append_left (by simp [mkU]; omega)]
  simp [mkU]
 ·rw [if_neg c, List.getElem_append_right (by simp [mkU]; omega)]
  have e : k - (mkU n).length = k - n := by simp [mkU]
  simp only [e, mkR, List.getElem_map]
  rw [List.getD_eq_getElem?_getD, List.getElem?_eq_getElem (by omega)]
  rfl
theorem cnB {n : Nat} {M : List (List Int)} {k : Nat} (h : k < n + M.length) : cnAt (listB n M) k = if k < M.length then ⟨M.getD k [], 1, false⟩ else ⟨unitR n (k - M.length), 0, true⟩ := by
 have hl : (listB n M).length = n + M.length := by simp [listB, mkU, mkR]; omega
 rw [cnAt_get (by omega)]
 unfold listB
 by_cases c : k < M.length
 ·rw [if_pos c, List.getElem_append_left (by simp [mkR]; omega)]
  simp only [mkR, List.getElem_map]
  rw [List.getD_eq_getElem?_getD, List.getElem?_eq_getElem (by omega)]
  rfl
 ·rw [if_neg c, List.getElem_append_right (by simp [mkR]; omega)]
  have e : k - (mkR M).length = k - M.length := by simp [mkR]
  simp only [e]
  simp [mkU]
theorem FL_A {n : Nat} {M : List (List Int)} {k : Nat} (h : k < n + M.length) : FL (listA n M) k = FA n M k := by
 unfold FL CL FA cdOf
 rw [cnA h]
 by_cases c : k < n
 ·simp only [if_pos c]; rfl
 ·simp only [if_neg c]; rfl
theorem FL_B {n : Nat} {M : List (List Int)} {k : Nat} (h : k < n + M.length) : FL (listB n M) k = FB n M k := by
 unfold FL CL FB cdOf
 rw [cnB h]
 by_cases c : k < M.length
 ·simp only [if_pos c]; rfl
 ·simp only [if_neg c]; rfl
theorem lenA (n : Nat) (M : List (List Int)) : (listA n M).length = n + M.length := by simp [listA, mkU, mkR]
theorem lenB (n : Nat) (M : List (List Int)) : (listB n M).length = n + M.length := by simp [listB, mkU, mkR]; omega
theorem unitR_small (n i : Nat) : ∀ x ∈ unitR n i, x.natAbs ≤ 19 := by
 intro x hx
 rcases List.mem_or_eq_of_mem_set hx with h | h
 ·have := List.eq_of_mem_replicate h
  subst this; decide
 ·subst h; decide
theorem mem_lists {n : Nat} {M : List (List Int)} {q : Cn} (h : q ∈ mkU n ∨ q ∈ mkR M) (m : Nat) (hM : Sums n m M) : q.f0.length = n ∧ (∀ a ∈ q.f0, a.natAbs ≤ 19) ∧ q.f1.natAbs ≤ 19 := by
 rcases h with h | h
 ·obtain ⟨i, _, rfl⟩ := List.mem_map.1 h
  exact ⟨unitR_len _ _, unitR_small _ _, by show (0 : Int).natAbs ≤ 19; decide⟩
 ·obtain ⟨r, hr, rfl⟩ := List.mem_map.1 h
  obtain ⟨a, b⟩ := hM.2 r hr
  exact ⟨a, fun x hx => by have := b x hx; omega, by show (1 : Int).natAbs ≤ 19; decide⟩
theorem condsA {n m : Nat} (hn : d3 n) (hm : d3 m) {M : List (List Int)} (hM : Sums n m M) : Conds n (listA n M) := by
 refine ⟨hn, ?_, fun q hq => mem_lists (List.mem_append.1 hq) m hM⟩
 rw [lenA, hM.1]
 rcases hm with rfl | rfl | rfl <;> omega
theorem condsB {n m : Nat} (hn : d3 n) (hm : d3 m) {M : List (List Int)} (hM : Sums n m M) : Conds n (listB n M) := by
 refine ⟨hn, ?_, fun q hq => mem_lists ((List.mem_append.1 hq).symm) m hM⟩
 rw [lenB, hM.1]
 rcases hm with rfl | rfl | rfl <;> omega
theorem gap_unit {n : Nat} (hn : d3 n) {p : List Int} (hp : p.length = n + 1) {i : Nat} (hi : i < n) : gap (unitR n i) 0 p = p.getD i 0 := by
 unfold gap
 rcases hn with rfl | rfl | rfl
 ·obtain ⟨x, d, rfl⟩ := len2 hp
  obtain rfl : i = 0 := by omega
  simp [unitR, dotQ, List.replicate]
 ·obtain ⟨x, y, d, rfl⟩ := len3 hp
  have : i = 0 ∨ i = 1 := by omega
  rcases this with rfl | rfl <;> simp [unitR, dotQ, List.replicate]
 ·obtain ⟨x, y, z, d, rfl⟩ := len4 hp
  have : i = 0 ∨ i = 1 ∨ i = 2 := by omega
  rcases this with rfl | rfl | rfl <;> simp [unitR, dotQ, List.replicate]
theorem ev_unit {n : Nat} (hn : d3 n) {p : List Int} (hp : p.length = n + 1) {i : Nat} (hi : i < n) : ev (pad 1 (unitR n i, 0)) (emb p) = p.getD i 0 := by
 rw [ev_gap hn 0 1 (unitR_len n i) hp, gap_unit hn hp hi, Int.one_mul]
theorem emb_last {n : Nat} (hn : d3 n) {p : List Int} (hp : p.length = n + 1) : (emb p).2.2.2 = p.getD n 0 := by
 rcases hn with rfl | rfl | rfl
 ·obtain ⟨x, d, rfl⟩ := len2 hp; rfl
 ·obtain ⟨x, y, d, rfl⟩ := len3 hp; rfl
 ·obtain ⟨x, y, z, d, rfl⟩ := len4 hp; rfl
theorem nonNeg_of {n : Nat} (hn : d3 n) {p : List Int} (hp : p.length = n + 1) (h0 : 0 < (emb p).2.2.2) (h : ∀ i, i < n → 0 ≤ p.getD i 0) : ∀ x ∈ p, 0 ≤ x := by
 intro x hx
 obtain ⟨i, hi, rfl⟩ := List.mem_iff_getElem.1 hx
 by_cases c : i < n
 ·have := h i c
  rwa [getD_of hi] at this
 ·obtain rfl : i = n := by omega
  rw [emb_last hn hp, getD_of hi] at h0
  omega
theorem nonNegA {n : Nat} (hn : d3 n) (M : List (List Int)) : NonNeg n (listA n M) := by
 intro p hp h0 hin
 refine nonNeg_of hn hp h0 fun i hi => ?_
 have := hin i (by rw [lenA]; omega)
 rw [FL_A (by omega)] at this
 unfold FA at this
 rwa [if_pos hi, ev_unit hn hp hi] at this
theorem nonNegB {n : Nat} (hn : d3 n) (M : List (List Int)) : NonNeg n (listB n M) := by
 intro p hp h0 hin
 refine nonNeg_of hn hp h0 fun i hi => ?_
 have := hin (M.length + i) (by rw [lenB]; omega)
 rw [FL_B (by omega)] at this
 unfold FB at this
 rwa [if_neg (by omega), show M.length + i - M.length = i by omega, ev_unit hn hp hi] at this
def origin (n : Nat) : List Int := List.replicate n 0 ++ [1]
theorem origin_corner {n : Nat} (hn : d3 n) (M : List (List Int)) (hM : ∀ r ∈ M, r.length = n) : IsCorner (FA n M) (n + M.length) n (origin n) := by
 have hin : ∀ k, k < n + M.length → 0 ≤ ev (FA n M k) (emb (origin n)) := by
  intro k hk
  have hp : (origin n).length = n + 1 := by simp [origin]
  unfold FA
  by_cases c : k < n
  ·rw [if_pos c, ev_unit hn hp c]
   have : (origin n).getD k 0 = 0 := by
    unfold origin
    rw [getD_of (by simp; omega), List.getElem_append_left (by simpa using c)]
    simp
   omega
  ·rw [if_neg c]
   have hr := hM _ (GmFig.getD_mem (show k - n < M.length by omega))
   rw [ev_gap hn 1 (-1) hr hp]
   unfold gap
   rw [hr]
   generalize M.getD (k - n) [] = r at hr
   rcases hn with rfl | rfl | rfl
   ·obtain ⟨a, rfl⟩ := len1 hr; simp [origin, dotQ, List.replicate]
   ·obtain ⟨a, b, rfl⟩ := len2 hr; simp [origin, dotQ, List.replicate]
   ·obtain ⟨a, b, c, rfl⟩ := len3 hr; simp [origin, dotQ, List.replicate]
 refine ⟨by simp [origin], ?_, ?_, hin, List.range n, by simp, fun k hk => ?_, ?_⟩
 ·rcases hn with rfl | rfl | rfl <;> decide
 ·rcases hn with rfl | rfl | rfl <;> decide
 ·have hk := List.mem_range.1 hk
  refine ⟨by omega, ?_⟩
  unfold FA
  rw [if_pos hk, ev_unit hn (by simp [origin]) hk]
  unfold origin
  rw [getD_of (by simp; omega), List.getElem_append_left (by simpa using hk)]
  simp
 ·rcases hn with rfl | rfl | rfl
  ·show det3 (FA 1 M 0) (unitH 1) (unitH 2) ≠ 0
   simp only [FA, show (0 : Nat) < 1 by omega, if_true]
   decide
  ·show det3 (FA 2 M 0) (FA 2 M 1) (unitH 2) ≠ 0
   simp only [FA, show (0 : Nat) < 2 by omega, show (1 : Nat) < 2 by omega, if_true]
   decide
  ·show det3 (FA 3 M 0) (FA 3 M 1) (FA 3 M 2) ≠ 0
   simp only [FA, show (0 : Nat) < 3 by omega, show (1 : Nat) < 3 by omega, show (2 : Nat) < 3 by omega, if_true]
   decide
theorem cornerA {n : Nat} (hn : d3 n) (M : List (List Int)) (p : List Int) : IsCorner (FL (listA n M)) (listA n M).length n p ↔ IsCorner (FA n M) (n + M.length) n p := by
 rw [lenA]
 exact ⟨corner_turn hn (fun k hk => ⟨k, hk, FL_A hk⟩) (fun k hk => ⟨k, hk, (FL_A hk).symm⟩), corner_turn hn (fun k hk => ⟨k, hk, (FL_A hk).symm⟩) (fun k hk => ⟨k, hk, FL_A hk⟩)⟩
theorem cornerB {n : Nat} (hn : d3 n) (M : List (List Int)) (p : List Int) : IsCorner (FL (listB n M)) (listB n M).length n p ↔ IsCorner (FA n M) (n + M.length) n p := by
 rw [lenB, cornerA_B hn]
 exact ⟨corner_turn hn (fun k hk => ⟨k, hk, FL_B hk⟩) (fun k hk => ⟨k, hk, (FL_B hk).symm⟩), corner_turn hn (fun k hk => ⟨k, hk, (FL_B hk).symm⟩) (fun k hk => ⟨k, hk, FL_B hk⟩)⟩
theorem labsA {n : Nat} (M : List (List Int)) (p : H) : labs (FL (listA n M)) (listA n M).length p = labs (FA n M) (n + M.length) p := by
 unfold labs
 rw [lenA]
 exact List.filter_congr fun k hk => by rw [FL_A (List.mem_range.1 hk)]
theorem labsB {n : Nat} (M : List (List Int)) (p : H) : labs (FL (listB n M)) (listB n M).length p = labs (FB n M) (n + M.length) p := by
 unfold labs
 rw [lenB]
 exact List.filter_congr fun k hk => by rw [FL_B (List.mem_range.1 hk)]
theorem sure_is {i n : Nat} (h : i < n) (hn : n ≤ 1000) : impl_sure.f (i : Int) (n : Int) = some (unitR n i) := by
 unfold impl_sure.f
 rw [if_pos (by omega), if_pos (by omega), Option.bind_some, if_pos (by omega), if_pos (by simp; omega), Int.toNat_natCast, Int.toNat_natCast]
 rfl
theorem col_l0 (b : List (List Int)) (j : Nat) (hj : ∀ r ∈ b, j < r.length) (hl : b.length ≤ 1000) (d : Nat) :
  ∀ i : Nat, i + d = b.length → Ev (fun k => impl_column.l0 k (j : Int) ((b.take i).map fun r => r.getD j 0) b (b.length : Int) (i : Int)) (colAt b j) := by
 induction d with
 | zero =>
  intro i hi
  rw [List.take_of_length_le (by omega)]
  refine Ev.step (fun k => ?_) (Ev.now _)
  simp only [impl_column.l0]
  rw [if_neg (by omega)]
  rfl
 | succ d ih =>
  intro i hi
  have h1 : i < b.length := by omega
  have hr := hj _ (List.getElem_mem h1)
  have ei : wrap64 ((i : Int) + 1) = ((i + 1 : Nat) : Int) := by unfold wrap64; omega
  have er : rd_L1 b (i : Int) = b[i] := by simp [rd_L1, List.getD, List.getElem?_eq_getElem h1]
  refine Ev.step (fun k => ?_) (ih (i + 1) (by omega))
  simp only [impl_column.l0]
  rw [if_pos (by omega), if_pos (by omega), if_pos (by omega), er, if_pos (by omega), if_pos (by omega), if_pos (by simp; omega), rd_getElem hr, ei, List.take_succ_eq_append_getElem h1, List.map_append]
  simp only [List.map_cons, List.map_nil]
  rw [getD_of hr]
theorem evColumn (b : List (List Int)) (j : Nat) (hj : ∀ r ∈ b, j < r.length) (hl : b.length ≤ 1000) : Ev (fun k => impl_column.f k b (j : Int)) (colAt b j) := col_l0 b j hj hl b.length 0 (by omega)
theorem add_step (q : List Int) (i : Nat) (h : i < q.length) : ((q.take i).map (· + 10) ++ q.drop i).set i (q[i] + 10) = (q.take (i + 1)).map (· + 10) ++ q.drop (i + 1) := by
 rw [List.set_append, if_neg (by simp; omega), List.drop_eq_getElem_cons h, List.take_succ_eq_append_getElem h, List.map_append, List.append_assoc]
 have : i - (List.map (· + 10) (q.take i)).length = 0 := by simp; omega
 rw [this]
 rfl
theorem concat2 (x y : List Cn) (hx : x.length ≤ 1000) (hy : y.length ≤ 1000) : Ev (fun k => impl_condition_60.f k [x, y]) (x ++ y) := by
 refine ⟨10, fun k hk => ?_⟩
 obtain ⟨k, rfl⟩ : ∃ d, k = d + 6 := ⟨k - 6, by omega⟩
 have w1 : wrap64 ((0 : Int) + (x.length : Int)) = (x.length : Int) := by rw [Int.zero_add]; exact wrap_id (by omega) (by omega)
 have w2 : wrap64 ((x.length : Int) + (y.length : Int)) = (x.length : Int) + (y.length : Int) := wrap_id (by omega) (by omega)
 have e0 : wrap64 (0 + 1) = 1 := by unfold wrap64; omega
 have e1 : wrap64 (1 + 1) = 2 := by unfold wrap64; omega
 have w0 : wrap64 (x.length : Int) = (x.length : Int) := wrap_id (by omega) (by omega)
 have r0 : ∀ t : List Cn → Int, t (([x, y] : List (List Cn)).getD (0 : Int).toNat []) = t x := fun _ => rfl
 simp only [impl_condition_60.f, impl_condition_60.l0, impl_condition_60.l1, List.length_cons, List.length_nil, e0, e1]
 simp [rd_L5, w0, w1, w2, e0, e1]
 omega
theorem f1_add (a b : List (List Int)) (x5 : Int) (x8 x9 : List Cn) (h9 : x9.length ≤ 100) (q : List Int) (hq : ∀ x ∈ q, -9 ≤ x ∧ x ≤ 9) (hl : q.length ≤ 100) (x40 x41 : Int) (v : Int × List Cn) (hfin : Ev (fun k => impl_Game_figureOf.l201 k 1 x5 x8 (x9 ++ [⟨plus q, 1, false⟩]) x40 (wrap64 (x41 + 1)) a b) v) (d : Nat) :
  ∀ i : Nat, i + d = q.length → Ev (fun k => impl_Game_figureOf.l302 k 1 x5 x8 x9 ((q.take i).map (· + 10) ++ q.drop i) x40 x41 (q.length : Int) (i : Int) a b) v := by
 induction d with
 | zero =>
  intro i hi
  rw [List.take_of_length_le (by omega), List.drop_eq_nil_of_le (by omega), List.append_nil]
  refine Ev.step (fun k => ?_) hfin
  simp only [impl_Game_figureOf.l302]
  rw [if_neg (by omega), if_pos (by omega)]
  rfl
 | succ d ih =>
  intro i hi
  have h1 : i < q.length := by omega
  have hb := hq _ (List.getElem_mem h1)
  have ei : wrap64 ((i : Int) + 1) = ((i + 1 : Nat) : Int) := by unfold wrap64; omega
  have hlen : ((q.take i).map (· + 10) ++ q.drop i).length = q.length := by simp; omega
  have er : rd ((q.take i).map (· + 10) ++ q.drop i) (i : Int) = q[i] := by
   have h2 : i < ((q.take i).map (· + 10) ++ q.drop i).length := by omega
   rw [rd_getElem h2, map_drop_get _ q i h1 h2]
  refine Ev.step (fun k => ?_) (ih (i + 1) (by omega))
  simp only [impl_Game_figureOf.l302]
  rw [if_pos (by omega), if_pos (by omega), if_pos (by omega), er, wrap_id (x := q[i] + 10) (by omega) (by omega), Int.toNat_natCast, add_step q i h1, ei]
theorem f1_rows {m n : Nat} {a b : List (List Int)} (hm : d3 m) (hn : d3 n) (hb : Tab m n b) (d : Nat) :
  ∀ i : Nat, i + d = n → Ev (fun k => impl_Game_figureOf.l201 k 1 (m : Int) (mkU m) (mkR ((List.range i).map fun j => plus (colAt b j))) (n : Int) (i : Int) a b) ((m : Int), listA m (M1 n b)) := by
 have hm3 : m ≤ 3 := by rcases hm with h | h | h <;> omega
 have hn3 : n ≤ 3 := by rcases hn with h | h | h <;> omega
 have hlu : (mkU m).length ≤ 1000 := by simp [mkU]; omega
 induction d with
 | zero =>
  intro i hi
  obtain rfl : i = n := by omega
  have hlr : (mkR ((List.range i).map fun j => plus (colAt b j))).length ≤ 1000 := by simp [mkR]; omega
  refine Ev.step (f := fun k => (impl_condition_60.f k [mkU m, mkR ((List.range i).map fun j => plus (colAt b j))]).bind fun t => some ((m : Int), t)) (fun k => ?_) (Ev.bind (concat2 _ _ hlu hlr) (Ev.now _))
  simp only [impl_Game_figureOf.l201]
  rw [if_neg (by omega), if_neg (by omega)]
 | succ d ih =>
  intro i hi
  have ei : wrap64 ((i : Int) + 1) = ((i + 1 : Nat) : Int) := by unfold wrap64; omega
  have key := ih (i + 1) (by omega)
  rw [List.range_succ, List.map_append] at key
  have e9 : mkR (((List.range i).map fun j => plus (colAt b j)) ++ [i].map fun j => plus (colAt b j)) = mkR ((List.range i).map fun j => plus (colAt b j)) ++ [⟨plus (colAt b i), 1, false⟩] := by simp [mkR]
  rw [e9] at key
  have hl9 : (mkR ((List.range i).map fun j => plus (colAt b j))).length ≤ 100 := by simp [mkR]; omega
  have hq : ∀ x ∈ colAt b i, -9 ≤ x ∧ x ≤ 9 := by
   intro x hx
   obtain ⟨r, hr, rfl⟩ := List.mem_map.1 hx
   obtain ⟨r1, r2⟩ := hb.2 r hr
   rw [getD_of (by omega)]
   exact r2 _ (List.getElem_mem _)
  have hql : (colAt b i).length ≤ 100 := by simp [colAt, hb.1]; omega
  refine Ev.step (f := fun k => (impl_payC.f k (i : Int) a b).bind fun t => impl_Game_figureOf.l302 k 1 (m : Int) (mkU m) (mkR ((List.range i).map fun j => plus (colAt b j))) t (n : Int) (i : Int) (t.length : Int) 0 a b) (fun k => ?_) (Ev.bind (a := colAt b i) (evColumn b i (fun r hr => by rw [(hb.2 r hr).1]; omega) (by rw [hb.1]; omega)) ?_)
  ·simp only [impl_Game_figureOf.l201]
   rw [if_pos (by omega)]
  ·have := f1_add a b (m : Int) (mkU m) (mkR ((List.range i).map fun j => plus (colAt b j))) hl9 (colAt b i) hq hql (n : Int) (i : Int) _ (by rw [ei]; exact key) (colAt b i).length 0 (by omega)
   simpa using this
theorem f1_units {m n : Nat} {a b : List (List Int)} (hm : d3 m) (hn : d3 n) (hb : Tab m n b) (d : Nat) :
  ∀ i : Nat, i + d = m → Ev (fun k => impl_Game_figureOf.l200 k 1 (m : Int) (n : Int) ((List.range i).map fun j => (⟨unitR m j, 0, true⟩ : Cn)) [] (m : Int) (i : Int) a b) ((m : Int), listA m (M1 n b)) := by
 have hm3 : m ≤ 3 := by rcases hm with h | h | h <;> omega
 have hn3 : n ≤ 3 := by rcases hn with h | h | h <;> omega
 induction d with
 | zero =>
  intro i hi
  obtain rfl : i = m := by omega
  refine Ev.step (fun k => ?_) (f1_rows (a := a) (b := b) hm hn hb n 0 (by omega))
  simp only [impl_Game_figureOf.l200]
  rw [if_neg (by omega)]
  rfl
 | succ d ih =>
  intro i hi
  have ei : wrap64 ((i : Int) + 1) = ((i + 1 : Nat) : Int) := by unfold wrap64; omega
  have key := ih (i + 1) (by omega)
  rw [List.range_succ, List.map_append] at key
  refine Ev.step (fun k => ?_) key
  simp only [impl_Game_figureOf.l200]
  rw [if_pos (by omega), sure_is (show i < m by omega) (by omega), Option.bind_some, if_pos (by simp; omega), ei]
  rfl
theorem f2_add (a b : List (List Int)) (x5 : Int) (x8 x9 : List Cn) (h9 : x9.length ≤ 100) (q : List Int) (hq : ∀ x ∈ q, -9 ≤ x ∧ x ≤ 9) (hl : q.length ≤ 100) (x40 x41 : Int) (v : Int × List Cn) (hfin : Ev (fun k => impl_Game_figureOf.l1 k 2 x5 x8 (x9 ++ [⟨plus q, 1, false⟩]) x40 (wrap64 (x41 + 1)) a b) v) (d : Nat) :
  ∀ i : Nat, i + d = q.length → Ev (fun k => impl_Game_figureOf.l102 k 2 x5 x8 x9 ((q.take i).map (· + 10) ++ q.drop i) x40 x41 (q.length : Int) (i : Int) a b) v := by
 induction d with
 | zero =>
  intro i hi
  rw [List.take_of_length_le (by omega), List.drop_eq_nil_of_le (by omega), List.append_nil]
  refine Ev.step (fun k => ?_) hfin
  simp only [impl_Game_figureOf.l102]
  rw [if_neg (by omega), if_pos (by omega)]
  rfl
 | succ d ih =>
  intro i hi
  have h1 : i < q.length := by omega
  have hb := hq _ (List.getElem_mem h1)
  have ei : wrap64 ((i : Int) + 1) = ((i + 1 : Nat) : Int) := by unfold wrap64; omega
  have hlen : ((q.take i).map (· + 10) ++ q.drop i).length = q.length := by simp; omega
  have er : rd ((q.take i).map (· + 10) ++ q.drop i) (i : Int) = q[i] := by
   have h2 : i < ((q.take i).map (· + 10) ++ q.drop i).length := by omega
   rw [rd_getElem h2, map_drop_get _ q i h1 h2]
  refine Ev.step (fun k => ?_) (ih (i + 1) (by omega))
  simp only [impl_Game_figureOf.l102]
  rw [if_pos (by omega), if_pos (by omega), if_pos (by omega), er, wrap_id (x := q[i] + 10) (by omega) (by omega), Int.toNat_natCast, add_step q i h1, ei]
theorem f2_rows {m n : Nat} {a b : List (List Int)} (hm : d3 m) (hn : d3 n) (ha : Tab m n a) (d : Nat) :
  ∀ i : Nat, i + d = m → Ev (fun k => impl_Game_figureOf.l1 k 2 (n : Int) (mkU n) (mkR ((List.range i).map fun j => plus (a.getD j []))) (m : Int) (i : Int) a b) ((n : Int), listB n (M2 a)) := by
 have hm3 : m ≤ 3 := by rcases hm with h | h | h <;> omega
 have hn3 : n ≤ 3 := by rcases hn with h | h | h <;> omega
 have hlu : (mkU n).length ≤ 1000 := by simp [mkU]; omega
 induction d with
 | zero =>
  intro i hi
  obtain rfl : i = m := by omega
  have hlr : (mkR ((List.range i).map fun j => plus (a.getD j []))).length ≤ 1000 := by simp [mkR]; omega
  have eM : ((List.range i).map fun j => plus (a.getD j [])) = M2 a := by
   unfold M2
   apply List.ext_getElem
   ·simp [ha.1]
   ·intro j h1 h2
    simp only [List.getElem_map, List.getElem_range]
    rw [List.getD_eq_getElem?_getD, List.getElem?_eq_getElem (by simpa using h2)]
    rfl
  rw [eM] at hlr ⊢
  refine Ev.step (f := fun k => (impl_condition_60.f k [mkR (M2 a), mkU n]).bind fun t => some ((n : Int), t)) (fun k => ?_) (Ev.bind (concat2 _ _ hlr hlu) (Ev.now _))
  simp only [impl_Game_figureOf.l1]
  rw [if_neg (by omega), if_pos trivial]
 | succ d ih =>
  intro i hi
  have ei : wrap64 ((i : Int) + 1) = ((i + 1 : Nat) : Int) := by unfold wrap64; omega
  have key := ih (i + 1) (by omega)
  rw [List.range_succ, List.map_append] at key
  have e9 : mkR (((List.range i).map fun j => plus (a.getD j [])) ++ [i].map fun j => plus (a.getD j [])) = mkR ((List.range i).map fun j => plus (a.getD j [])) ++ [⟨plus (a.getD i []), 1, false⟩] := by simp [mkR]
  rw [e9] at key
  have hl9 : (mkR ((List.range i).map fun j => plus (a.getD j []))).length ≤ 100 := by simp [mkR]; omega
  have hi' : i < a.length := by rw [ha.1]; omega
  have eg : a.getD i [] = a[i] := by simp [List.getD, List.getElem?_eq_getElem hi']
  obtain ⟨r1, r2⟩ := ha.2 _ (List.getElem_mem hi')
  have hpay : ∀ k : Nat, impl_payR.f (i : Int) a b = some (a.getD i []) := fun k => by
   unfold impl_payR.f
   rw [if_pos ⟨by omega, by omega⟩, Int.toNat_natCast]
   exact clone_is _ (by rw [eg]; omega)
  refine Ev.step (f := fun k => impl_Game_figureOf.l102 k 2 (n : Int) (mkU n) (mkR ((List.range i).map fun j => plus (a.getD j []))) (a.getD i []) (m : Int) (i : Int) ((a.getD i []).length : Int) 0 a b) (fun k => ?_) ?_
  ·simp only [impl_Game_figureOf.l1]
   rw [if_pos (by omega), hpay k, Option.bind_some]
  ·have := f2_add a b (n : Int) (mkU n) (mkR ((List.range i).map fun j => plus (a.getD j []))) hl9 (a.getD i []) (by rw [eg]; exact r2) (by rw [eg]; omega) (m : Int) (i : Int) _ (by rw [ei]; exact key) (a.getD i []).length 0 (by omega)
   simpa using this
theorem f2_units {m n : Nat} {a b : List (List Int)} (hm : d3 m) (hn : d3 n) (ha : Tab m n a) (d : Nat) :
  ∀ i : Nat, i + d = n → Ev (fun k => impl_Game_figureOf.l0 k 2 (n : Int) (m : Int) ((List.range i).map fun j => (⟨unitR n j, 0, true⟩ : Cn)) [] (n : Int) (i : Int) a b) ((n : Int), listB n (M2 a)) := by
 have hm3 : m ≤ 3 := by rcases hm with h | h | h <;> omega
 have hn3 : n ≤ 3 := by rcases hn with h | h | h <;> omega
 induction d with
 | zero =>
  intro i hi
  obtain rfl : i = n := by omega
  refine Ev.step (fun k => ?_) (f2_rows (a := a) (b := b) hm hn ha m 0 (by omega))
  simp only [impl_Game_figureOf.l0]
  rw [if_neg (by omega)]
  rfl
 | succ d ih =>
  intro i hi
  have ei : wrap64 ((i : Int) + 1) = ((i + 1 : Nat) : Int) := by unfold wrap64; omega
  have key := ih (i + 1) (by omega)
  rw [List.range_succ, List.map_append] at key
  refine Ev.step (fun k => ?_) key
  simp only [impl_Game_figureOf.l0]
  rw [if_pos (by omega), sure_is (show i < n by omega) (by omega), Option.bind_some, if_pos (by simp; omega), ei]
  rfl
theorem evFigure1 {m n : Nat} {a b : List (List Int)} (hm : d3 m) (hn : d3 n) (ha : Tab m n a) (hb : Tab m n b) (h0 : (a.getD 0 []).length = n) : Ev (fun k => impl_Game_figureOf.f k a b 1) ((m : Int), listA m (M1 n b)) := by
 have hm1 : 1 ≤ m := by rcases hm with h | h | h <;> omega
 refine Ev.congr (fun k => ?_) (f1_units (a := a) hm hn hb m 0 (by omega))
 unfold impl_Game_figureOf.f impl_Game_m.f impl_Game_n.f
 have er : rd_L1 a 0 = a.getD 0 [] := rfl
 rw [Option.bind_some, if_pos (by rw [ha.1]; omega), er, Option.bind_some, if_neg (by omega), ha.1, h0]
 rfl
theorem evFigure2 {m n : Nat} {a b : List (List Int)} (hm : d3 m) (hn : d3 n) (ha : Tab m n a) (hb : Tab m n b) (h0 : (a.getD 0 []).length = n) : Ev (fun k => impl_Game_figureOf.f k a b 2) ((n : Int), listB n (M2 a)) := by
 have hm1 : 1 ≤ m := by rcases hm with h | h | h <;> omega
 refine Ev.congr (fun k => ?_) (f2_units (b := b) hm hn ha n 0 (by omega))
 unfold impl_Game_figureOf.f impl_Game_m.f impl_Game_n.f
 have er : rd_L1 a 0 = a.getD 0 [] := rfl
 rw [Option.bind_some, if_pos (by rw [ha.1]; omega), er, Option.bind_some, if_pos rfl, Option.bind_some, Option.bind_some, ha.1, h0]
 rfl
end Go.Proofs.Ytggiicplcglalaa.GmFo
end
section
namespace Go.Proofs.Ytggiicplcglalaa.GmSpc
open Go.RowKit Go.Proofs.Ytggiicplcglalaa.All Go.Proofs.YtggiicplcglalaaW.PrintWords Go.Proofs.YtggiicplcglalaaW.PrintLast Go.Proofs.Ytggiicplcglalaa.Eqs Go.Proofs.Ytggiicplcglalaa.GmDet Go.Proofs.Ytggiicplcglalaa.GmRed Go.Proofs.Ytggiicplcglalaa.LH Go.Proofs.Ytggiicplcglalaa.GmDot Go.Proofs.Ytggiicplcglalaa.GmFig Go.Proofs.Ytggiicplcglalaa.GmPut Go.Proofs.Ytggiicplcglalaa.GmImp Go.Proofs.Ytggiicplcglalaa.GmFo
set_option linter.unusedVariables false
set_option linter.unusedSimpArgs false
set_option linter.unusedSectionVars false
theorem w_nat {i : Nat} (h : i ≤ 1000000000) : wrap64 (i : Int) = (i : Int) := wrap_id (by omega) (by omega)
theorem w_add (i j : Nat) (h : i + j ≤ 1000000000) : wrap64 ((i : Int) + (j : Int)) = ((i + j : Nat) : Int) := by
 have := w_nat h
 rwa [Int.natCast_add] at this
theorem w_succ (i : Nat) (h : i + 1 ≤ 1000000000) : wrap64 ((i : Int) + 1) = ((i + 1 : Nat) : Int) := w_add i 1 h
theorem add_bq {s P : Int} {i : Nat} (h1 : s.natAbs ≤ i * 19000000000) (h2 : P.natAbs ≤ 19000000000) : (s + P).natAbs ≤ (i + 1) * 19000000000 := by
 have := Int.natAbs_add_le s P
 omega
theorem add_wr {s : Int} {i : Nat} (hi : i ≤ 1000) (h : s.natAbs ≤ i * 19000000000) : wrap64 s = s := wrap_id (by omega) (by omega)
theorem e_neg {E D Q : Int} (e : E = Q - D) (h : D > Q) : E < 0 := by omega
theorem e_nn {E D Q : Int} (e : E = Q - D) (h : ¬ D > Q) : 0 ≤ E := by omega
theorem e_zero {E D Q : Int} (e : E = Q - D) (h : D = Q) : E = 0 := by omega
theorem e_nz {E D Q : Int} (e : E = Q - D) (h : ¬ D = Q) : ¬ E = 0 := by omega
theorem all_next {P : Nat → Prop} {i : Nat} (h : ∀ k, k < i → P k) (hi : P i) : ∀ k, k < i + 1 → P k := by
 intro k hk
 by_cases e : k = i
 ·subst e; exact hi
 ·exact h k (by omega)
theorem bq_wr {s : Int} (h : s.natAbs ≤ 19000000000) : wrap64 s = s := wrap_id (by omega) (by omega)
theorem me_l2 (p : List Int) (n : Nat) (hp : p.length = n + 1) (hn : n ≤ 3) (hy : ∀ b ∈ p, b.natAbs ≤ 1000000000) (r : List Int) (hr : r.length = n) (hra : ∀ a ∈ r, a.natAbs ≤ 19) (x6 : List Int) (x9 : Int) (x36 : List (List Int)) (x37 x38 : Int) (v : List Int × Bool)
  (hfin : Ev (fun k => if dotQ r p > p.getD n 0 then some (([] : List Int), false) else if dotQ r p = p.getD n 0 then (if x6.length < 17592186044416 then spec_gmMet.l1 k p (x6 ++ [wrap64 ((n : Int) + x9)]) (n : Int) x36 x37 (wrap64 (x38 + 1)) else none) else spec_gmMet.l1 k p x6 (n : Int) x36 x37 (wrap64 (x38 + 1))) v) (d : Nat) :
  ∀ (i : Nat) (s : Int), i + d = n → s.natAbs ≤ i * 19000000000 → s + dotQ (r.drop i) (p.drop i) = dotQ r p → Ev (fun k => spec_gmMet.l2 k p x6 (n : Int) x9 s x36 x37 x38 r (r.length : Int) (i : Int)) v := by
 induction d with
 | zero =>
  intro i s hi hs he
  rw [List.drop_eq_nil_of_le (show r.length ≤ i by omega)] at he
  simp only [dotQ, Int.add_zero] at he
  subst he
  have h1 : n < p.length := by omega
  refine Ev.step (fun k => ?_) hfin
  simp only [spec_gmMet.l2]
  rw [if_neg (by omega), if_pos (by omega), if_pos (by omega), rd_getElem h1, getD_of h1]
 | succ d ih =>
  intro i s hi hs he
  have h1 : i < r.length := by omega
  have h2 : i < p.length := by omega
  have hi1 : i + 1 ≤ 1000 := by omega
  have hd1 : i + 1 + d = n := by omega
  have ei := w_succ i (by omega)
  have b1 := mul_bq (hra _ (List.getElem_mem h1)) (hy _ (List.getElem_mem h2))
  rw [List.drop_eq_getElem_cons h1, List.drop_eq_getElem_cons h2] at he
  simp only [dotQ] at he
  generalize hP : r[i] * p[i] = P at b1 he
  have b2 := add_bq hs b1
  have e1 := bq_wr b1
  have e2 := add_wr hi1 b2
  rw [← Int.add_assoc] at he
  have key := ih (i + 1) (s + P) hd1 b2 he
  clear hs b1 b2 he ih hfin
  refine Ev.step (fun k => ?_) key
  simp only [spec_gmMet.l2]
  rw [if_pos (by omega), if_pos (by omega), if_pos (by omega), if_pos (by omega), rd_getElem h1, rd_getElem h2, hP, e1, e2, ei]
def labTo (F : Nat → H) (x : H) (i : Nat) : List Int := ((List.range i).filter fun j => decide (ev (F j) x = 0)).map Int.ofNat
theorem labTo_succ (F : Nat → H) (x : H) (i : Nat) : labTo F x (i + 1) = if ev (F i) x = 0 then labTo F x i ++ [(i : Int)] else labTo F x i := by
 unfold labTo
 rw [List.range_succ, List.filter_append, List.map_append]
 by_cases c : ev (F i) x = 0
 ·rw [if_pos c]; simp [c]
 ·rw [if_neg c]; simp [c]
theorem labTo_len (F : Nat → H) (x : H) (i : Nat) : (labTo F x i).length ≤ i := by
 unfold labTo
 rw [List.length_map]
 exact Nat.le_trans (List.length_filter_le _ _) (by simp)
def insB (F : Nat → H) (N : Nat) (x : H) : Bool := (List.range N).all fun k => decide (0 ≤ ev (F k) x)
theorem insB_iff (F : Nat → H) (N : Nat) (x : H) : insB F N x = true ↔ ∀ k, k < N → 0 ≤ ev (F k) x := by
 unfold insB
 rw [List.all_eq_true]
 exact ⟨fun h k hk => of_decide_eq_true (h k (List.mem_range.2 hk)), fun h k hk => decide_eq_true (h k (List.mem_range.1 hk))⟩
theorem insB_no {F : Nat → H} {N k : Nat} {x : H} (hk : k < N) (h : ev (F k) x < 0) : insB F N x = false := by
 cases c : insB F N x with
 | false => rfl
 | true => have := (insB_iff F N x).1 c k hk; omega
section
variable {n m : Nat} (hn : d3 n) (hm : d3 m) {M : List (List Int)} (hM : Sums n m M) {p : List Int} (hp : p.length = n + 1) (hy : ∀ b ∈ p, b.natAbs ≤ 1000000000)
include hn hm hM hp hy
theorem ev_row {k : Nat} (hk : k < m) : ev (FA n M (n + k)) (emb p) = p.getD n 0 - dotQ (M.getD k []) p := by
 unfold FA
 rw [if_neg (by omega), show n + k - n = k by omega]
 have hr := (hM.2 _ (GmFig.getD_mem (show k < M.length by rw [hM.1]; exact hk))).1
 rw [ev_gap hn 1 (-1) hr hp]
 unfold gap
 rw [hr]
 omega
theorem me_l1 (d : Nat) : ∀ i : Nat, i + d = m → (∀ k, k < n + i → 0 ≤ ev (FA n M k) (emb p)) → Ev (fun k => spec_gmMet.l1 k p (labTo (FA n M) (emb p) (n + i)) (n : Int) M (m : Int) (i : Int)) (if insB (FA n M) (n + m) (emb p) = true then (labTo (FA n M) (emb p) (n + m), true) else ([], false)) := by
 have hn3 : n ≤ 3 := by rcases hn with h | h | h <;> omega
 have hm3 : m ≤ 3 := by rcases hm with h | h | h <;> omega
 induction d with
 | zero =>
  intro i hi hin
  obtain rfl : i = m := by omega
  rw [if_pos ((insB_iff _ _ _).2 hin)]
  refine Ev.step (fun k => ?_) (Ev.now _)
  simp only [spec_gmMet.l1]
  rw [if_neg (by omega)]
 | succ d ih =>
  intro i hi hin
  have him : i < m := by omega
  have hnm : n + i < n + m := by omega
  have hz1 : (i : Int) < (m : Int) := by omega
  have hz2 : (0 : Int) ≤ (i : Int) := by omega
  have hb : n + i < 17592186044416 := by omega
  have ei := w_succ i (by omega)
  have en := w_add n i (by omega)
  have h1 : i < M.length := by rw [hM.1]; exact him
  have hz3 : (i : Int) < (M.length : Int) := Int.ofNat_lt.mpr h1
  have key := ih (i + 1) (by omega)
  have er : rd_L1 M (i : Int) = M.getD i [] := rfl
  obtain ⟨r1, r2⟩ := hM.2 _ (GmFig.getD_mem h1)
  have r3 : ∀ a ∈ M.getD i [], a.natAbs ≤ 19 := fun a ha => by have := r2 a ha; omega
  have e0 := ev_row hn hm hM hp hy him
  have hlen := Nat.lt_of_le_of_lt (labTo_len (FA n M) (emb p) (n + i)) hb
  rw [show n + (i + 1) = n + i + 1 from rfl, labTo_succ] at key
  refine Ev.step (fun k => ?_) (me_l2 p n hp hn3 hy (M.getD i []) r1 r3 (labTo (FA n M) (emb p) (n + i)) (i : Int) M (m : Int) (i : Int) _ ?_ n 0 0 (Nat.zero_add n) (by simp) (by simp))
  ·simp only [spec_gmMet.l1]
   rw [if_pos hz1, if_pos hz2, if_pos hz3, er]
   rfl
  ·by_cases c1 : dotQ (M.getD i []) p > p.getD n 0
   ·rw [insB_no hnm (e_neg e0 c1), if_neg (by decide)]
    exact Ev.congr (fun k => by rw [if_pos c1]) (Ev.now _)
   ·have key2 := key (all_next hin (e_nn e0 c1))
    by_cases c2 : dotQ (M.getD i []) p = p.getD n 0
    ·rw [if_pos (e_zero e0 c2)] at key2
     exact Ev.congr (fun k => by rw [if_neg c1, if_pos c2, if_pos hlen, en, ei]) key2
    ·rw [if_neg (e_nz e0 c2)] at key2
     exact Ev.congr (fun k => by rw [if_neg c1, if_neg c2, ei]) key2
theorem me_l0 (d : Nat) : ∀ i : Nat, i + d = n → (∀ k, k < i → 0 ≤ ev (FA n M k) (emb p)) → Ev (fun k => spec_gmMet.l0 k M p (labTo (FA n M) (emb p) i) (n : Int) (i : Int)) (if insB (FA n M) (n + m) (emb p) = true then (labTo (FA n M) (emb p) (n + m), true) else ([], false)) := by
 have hn3 : n ≤ 3 := by rcases hn with h | h | h <;> omega
 induction d with
 | zero =>
  intro i hi hin
  obtain rfl : i = n := by omega
  have hz : ¬ (i : Int) < (i : Int) := by omega
  refine Ev.step (fun k => ?_) (me_l1 hn hm hM hp hy m 0 (Nat.zero_add m) hin)
  simp only [spec_gmMet.l0]
  rw [if_neg hz, hM.1]
  rfl
 | succ d ih =>
  intro i hi hin
  have hin' : i < n := by omega
  have hnm : i < n + m := by omega
  have hz1 : (i : Int) < (n : Int) := by omega
  have hz2 : (0 : Int) ≤ (i : Int) := by omega
  have hb : i < 17592186044416 := by omega
  have ei := w_succ i (by omega)
  have h1 : i < p.length := by omega
  have hz3 : (i : Int) < (p.length : Int) := Int.ofNat_lt.mpr h1
  have key := ih (i + 1) (by omega)
  have hlen := Nat.lt_of_le_of_lt (labTo_len (FA n M) (emb p) i) hb
  have e0 : ev (FA n M i) (emb p) = p[i] := by
   unfold FA
   rw [if_pos hin', ev_unit hn hp hin', getD_of h1]
  rw [labTo_succ] at key
  by_cases c1 : p[i] < 0
  ·rw [insB_no hnm (by rw [e0]; exact c1), if_neg (by decide)]
   refine Ev.step (fun k => ?_) (Ev.now _)
   simp only [spec_gmMet.l0]
   rw [if_pos hz1, if_pos hz2, if_pos hz3, rd_getElem h1, if_pos c1]
  ·have key2 := key (all_next hin (by rw [e0]; exact Int.not_lt.mp c1))
   by_cases c2 : p[i] = 0
   ·rw [if_pos (e0.trans c2)] at key2
    refine Ev.step (fun k => ?_) key2
    simp only [spec_gmMet.l0]
    rw [if_pos hz1, if_pos hz2, if_pos hz3, rd_getElem h1, if_neg c1, if_pos c2, if_pos hlen, ei]
   ·rw [if_neg (fun h => c2 (e0.symm.trans h))] at key2
    refine Ev.step (fun k => ?_) key2
    simp only [spec_gmMet.l0]
    rw [if_pos hz1, if_pos hz2, if_pos hz3, rd_getElem h1, if_neg c1, if_neg c2, ei]
theorem evMet : Ev (fun k => spec_gmMet.f k M p) (if insB (FA n M) (n + m) (emb p) = true then (labTo (FA n M) (emb p) (n + m), true) else ([], false)) := by
 have hn3 : n ≤ 3 := by rcases hn with h | h | h <;> omega
 refine Ev.congr (fun k => ?_) (me_l0 hn hm hM hp hy n 0 (by omega) (by omega))
 unfold spec_gmMet.f
 have : wrap64 ((p.length : Int) - 1) = (n : Int) := by rw [hp, show ((n + 1 : Nat) : Int) - 1 = (n : Int) by omega]; exact w_nat (by omega)
 rw [this]
 rfl
end
theorem less_l0 (a b : List Int) (hab : a.length = b.length) (hl : a.length ≤ 1000) (d : Nat) : ∀ i : Nat, i + d = a.length → Ev (fun k => spec_gmLess.l0 k a b (a.length : Int) (i : Int)) (lexlt (a.drop i) (b.drop i)) := by
 induction d with
 | zero =>
  intro i hi
  rw [List.drop_eq_nil_of_le (by omega), List.drop_eq_nil_of_le (by omega)]
  refine Ev.step (fun k => ?_) (Ev.now _)
  simp only [spec_gmLess.l0]
  rw [if_neg (by omega)]
  rfl
 | succ d ih =>
  intro i hi
  have h1 : i < a.length := by omega
  have h2 : i < b.length := by omega
  have ei := w_succ i (by omega)
  rw [List.drop_eq_getElem_cons h1, List.drop_eq_getElem_cons h2]
  simp only [lexlt]
  by_cases c : a[i] = b[i]
  ·rw [if_pos c]
   refine Ev.step (fun k => ?_) (ih (i + 1) (by omega))
   simp only [spec_gmLess.l0]
   rw [if_pos (by omega), if_pos (by omega), if_pos (by omega), if_pos (by omega), rd_getElem h1, rd_getElem h2, if_pos c, ei]
  ·rw [if_neg c]
   refine Ev.step (fun k => ?_) (Ev.now _)
   simp only [spec_gmLess.l0]
   rw [if_pos (by omega), if_pos (by omega), if_pos (by omega), if_pos (by omega), rd_getElem h1, rd_getElem h2, if_neg c]
theorem evLess (a b : List Int) (hab : a.length = b.length) (hl : a.length ≤ 1000) : Ev (fun k => spec_gmLess.f k a b) (lexlt a b) := less_l0 a b hab hl a.length 0 (by omega)
theorem same_l0 (a b : List Int) (hab : a.length = b.length) (hl : a.length ≤ 1048576) (d : Nat) : ∀ i : Nat, i + d = a.length → Ev (fun k => spec_l1Same.l0 k a b (a.length : Int) (i : Int)) (decide (a.drop i = b.drop i)) := by
 induction d with
 | zero =>
  intro i hi
  rw [List.drop_eq_nil_of_le (by omega), List.drop_eq_nil_of_le (by omega)]
  refine Ev.step (fun k => ?_) (Ev.now _)
  simp only [spec_l1Same.l0]
  rw [if_neg (by omega)]
  rfl
 | succ d ih =>
  intro i hi
  have h1 : i < a.length := by omega
  have h2 : i < b.length := by omega
  have ei := w_succ i (by omega)
  rw [List.drop_eq_getElem_cons h1, List.drop_eq_getElem_cons h2]
  by_cases c : a[i] = b[i]
  ·have e : decide (a[i] :: a.drop (i + 1) = b[i] :: b.drop (i + 1)) = decide (a.drop (i + 1) = b.drop (i + 1)) := by rw [c, decide_eq_decide, List.cons.injEq]; exact ⟨fun h => h.2, fun h => ⟨rfl, h⟩⟩
   rw [e]
   refine Ev.step (fun k => ?_) (ih (i + 1) (by omega))
   simp only [spec_l1Same.l0]
   rw [if_pos (by omega), if_pos (by omega), if_pos (by omega), if_pos (by omega), rd_getElem h1, rd_getElem h2, if_pos c, ei]
  ·have e : decide (a[i] :: a.drop (i + 1) = b[i] :: b.drop (i + 1)) = false := decide_eq_false fun e => c (List.cons.inj e).1
   rw [e]
   refine Ev.step (fun k => ?_) (Ev.now _)
   simp only [spec_l1Same.l0]
   rw [if_pos (by omega), if_pos (by omega), if_pos (by omega), if_pos (by omega), rd_getElem h1, rd_getElem h2, if_neg c]
theorem evSame (a b : List Int) (hl : a.length ≤ 1048576) : Ev (fun k => spec_l1Same.f k a b) (decide (a = b)) := by
 by_cases c : a.length = b.length
 ·refine Ev.congr (fun k => ?_) (same_l0 a b c hl a.length 0 (by omega))
  unfold spec_l1Same.f
  rw [if_pos (by omega)]
  rfl
 ·have e : decide (a = b) = false := decide_eq_false fun e => c (by rw [e])
  rw [e]
  refine Ev.congr (fun k => ?_) (Ev.now _)
  unfold spec_l1Same.f
  rw [if_neg (by omega)]
theorem put_l0 (L : List (List Int)) (p : List Int) (hL : ∀ a ∈ L, a.length = p.length) (hp : p.length ≤ 1000) (hl : L.length ≤ 1000) (d : Nat) : ∀ i : Nat, i + d = L.length → Ev (fun k => spec_gmPut.l0 k L p (i : Int)) (L.take i ++ putL (L.drop i) p) := by
 induction d with
 | zero =>
  intro i hi
  have e1 : L.drop i = [] := List.drop_eq_nil_of_le (by omega)
  have e2 : L.take i = L := List.take_of_length_le (by omega)
  rw [e1, e2]
  refine Ev.step (fun k => ?_) (Ev.now _)
  simp only [spec_gmPut.l0, Option.bind_some, List.nil_append, Int.toNat_natCast]
  rw [if_neg (by omega), if_pos (by omega), if_pos (by omega), e1, e2, if_pos (by simp; omega), if_pos (by omega), if_pos (by simp; omega), List.append_nil]
  rfl
 | succ d ih =>
  intro i hi
  have h1 : i < L.length := by omega
  have ei := w_succ i (by omega)
  have er : rd_L1 L (i : Int) = L[i] := by simp [rd_L1, List.getD, List.getElem?_eq_getElem h1]
  have hla := hL _ (List.getElem_mem h1)
  have hless := evLess L[i] p hla (by omega)
  have hsame := evSame L[i] p (by omega)
  have hd : L.drop i = L[i] :: L.drop (i + 1) := List.drop_eq_getElem_cons h1
  have hne : decide ((i : Int) < (L.length : Int)) = true := decide_eq_true (by omega)
  refine Ev.step (fun k => by simp only [spec_gmPut.l0]; rw [if_pos (by omega), if_pos (by omega), er]) (Ev.bind hless ?_)
  cases c : lexlt L[i] p with
  | true =>
   have key := ih (i + 1) (by omega)
   have e : L.take (i + 1) ++ putL (L.drop (i + 1)) p = L.take i ++ putL (L.drop i) p := by
    rw [hd, putL_skip _ c, List.take_succ_eq_append_getElem h1, List.append_assoc]
    rfl
   rw [e] at key
   simp only [if_true]
   rw [ei]
   exact key
  | false =>
   simp only [Bool.false_eq_true, if_false]
   refine Ev.bind hsame ?_
   by_cases e : L[i] = p
   ·rw [decide_eq_true e]
    simp only [if_true]
    have e2 : L.take i ++ putL (L.drop i) p = L := by
     rw [hd]
     unfold putL
     rw [if_neg (by rw [c]; decide), if_pos e, ← hd, List.take_append_drop]
    rw [e2]
    exact Ev.now _
   ·rw [decide_eq_false e]
    have e2 : putL (L.drop i) p = p :: L.drop i := by
     rw [hd]
     unfold putL
     rw [if_neg (by rw [c]; decide), if_neg e]
    rw [e2]
    simp only [Bool.false_eq_true, if_false, Option.bind_some, List.nil_append, Int.toNat_natCast]
    refine Ev.congr (fun k => ?_) (Ev.now _)
    rw [if_pos (by omega), if_pos (by simp; omega), if_pos (by simp; omega), if_pos (by simp; omega), List.append_assoc]
    rfl
theorem evPut (L : List (List Int)) (p : List Int) (hL : ∀ a ∈ L, a.length = p.length) (hp : p.length ≤ 1000) (hl : L.length ≤ 1000) : Ev (fun k => spec_gmPut.f k L p) (putL L p) := by
 have := put_l0 L p hL hp hl L.length 0 (by omega)
 exact this
end Go.Proofs.Ytggiicplcglalaa.GmSpc
end
