/- For every game and weights the law on PayOf answers true. -/
import Derived.Test.YteikfmoklpokhaaQax0
import Derived.Test.YteikfmoklpokhaaQax5
import Derived.Test.YteikfmoklpokhaaQax6
import Derived.Test.YteikfmoklpokhaaQax7
import Derived.Test.YteikfmoklpokhaaQax8
import Derived.Test.YteikfmoklpokhaaQax1
import Derived.Test.YteikfmoklpokhaaQaEqs
import Derived.Test.YteikfmoklpokhaaQaEqsG
import Derived.Test.YteikfmoklpokhaaQaEqsR
import Derived.Test.YteikfmoklpokhaaQaGame
import Derived.Test.YteikfmoklpokhaaQaL1
import Derived.Test.YteikfmoklpokhaaQaPlay
import Derived.Test.YteikfmoklpokhaaQaRowsIn
import Derived.Test.YteikfmoklpokhaaQaToInt
import Derived.Test.YteikfmoklpokhaaQaWeights
namespace Go.Proofs.Yteikfmoklpokhaa.Pure
open Go.RowKit Go.Proofs.Yteikfmoklpokhaa.All Go.Proofs.Yteikfmoklpokhaa.Eqs Go.Proofs.Yteikfmoklpokhaa.L1 Go.Proofs.Yteikfmoklpokhaa.Weights Go.Proofs.Yteikfmoklpokhaa.Games Go.Proofs.Yteikfmoklpokhaa.RowsIn Go.Proofs.YteikfmoklpokhaaW.PrintWords Go.Proofs.YteikfmoklpokhaaW.PrintLast
namespace ofFnExactPayOf
/-- The pays of weights, row by row. -/
def payP : List Int → List (List Int) → List Int → Int
  | u :: x, r :: a, y => u * dotP r y + payP x a y
  | _, _, _ => 0
structure Shape (a : List (List Int)) (m n : Nat) : Prop where
  len : a.length = m
  rows : ∀ r ∈ a, r.length = n ∧ ∀ v ∈ r, v.natAbs ≤ 9
theorem impl_l0 (a b : List (List Int)) (x y : List Int) (m n : Nat) (hm : m ≤ 3) (hn : n ≤ 3) (ha : Shape a m n) (hb : Shape b m n) (hx : x.length = m) (hy : y.length = n) (bx : ∀ v ∈ x, v.natAbs ≤ 1000) (by_ : ∀ v ∈ y, v.natAbs ≤ 1000) (d : Nat) :
    ∀ (k i : Nat) (s t : Int), i + d = m → d + 2000 < k → s.natAbs ≤ i * 27000000 → t.natAbs ≤ i * 27000000 → impl_PayOf.l0 k x y s t x (x.length : Int) i a b = some (s + payP (x.drop i) (a.drop i) y, t + payP (x.drop i) (b.drop i) y, x.sum * y.sum, true) := by
  have hbig : ∀ v ∈ y, v.natAbs ≤ 1000000 := fun v hv => by have := by_ v hv; omega
  induction d with
  | zero =>
    intro k i s t hi hk hs ht
    obtain ⟨k, rfl⟩ : ∃ m, k = m + 1 := ⟨k - 1, by omega⟩
    simp only [impl_PayOf.l0]
    have bs := sum_bd 1000 x bx
    have bt := sum_bd 1000 y by_
    rw [hx] at bs
    rw [hy] at bt
    have bst := mul_bd (A := 3000) (B := 3000) (a := x.sum) (b := y.sum) (by omega) (by omega)
    rw [if_neg (by omega), implSum x (fun v hv => by have := bx v hv; omega) (by omega) k (by omega), Option.bind_some, implSum y hbig (by omega) k (by omega), Option.bind_some, List.drop_of_length_le (show x.length ≤ i by omega), wrap_id (by omega) (by omega)]
    simp [payP]
  | succ d ih =>
    intro k i s t hi hk hs ht
    obtain ⟨k, rfl⟩ : ∃ m, k = m + 1 := ⟨k - 1, by omega⟩
    have h1 : i < x.length := by omega
    have h2 : i < a.length := by rw [ha.len]; omega
    have h3 : i < b.length := by rw [hb.len]; omega
    have ra := ha.rows _ (List.getElem_mem h2)
    have rb := hb.rows _ (List.getElem_mem h3)
    have da := dotP_bd 9 1000 a[i] y ra.2 by_
    have db := dotP_bd 9 1000 b[i] y rb.2 by_
    rw [ra.1] at da
    rw [rb.1] at db
    have hu := bx _ (List.getElem_mem h1)
    have ma := mul_bd (A := 1000) (B := 27000) hu (show (dotP a[i] y).natAbs ≤ 27000 by omega)
    have mb := mul_bd (A := 1000) (B := 27000) hu (show (dotP b[i] y).natAbs ≤ 27000 by omega)
    simp only [impl_PayOf.l0]
    rw [if_pos (by omega), if_pos (by omega), if_pos (by omega), if_pos (by omega), show rd_L1 a (i : Int) = a[i] by simp [rd_L1, List.getD, List.getElem?_eq_getElem h2], dot_is a[i] y (by omega) ra.2 hbig (by omega) k (by omega), Option.bind_some, if_pos (by omega), show rd_L1 b (i : Int) = b[i] by simp [rd_L1, List.getD, List.getElem?_eq_getElem h3], dot_is b[i] y (by omega) rb.2 hbig (by omega) k (by omega), Option.bind_some, rd_getElem h1]
    rw [wrap_id (x := x[i] * dotP a[i] y) (by omega) (by omega), wrap_id (x := x[i] * dotP b[i] y) (by omega) (by omega), wrap_id (x := s + x[i] * dotP a[i] y) (by omega) (by omega), wrap_id (x := t + x[i] * dotP b[i] y) (by omega) (by omega), wrap_id (by omega) (by omega)]
    have := ih k (i + 1) (s + x[i] * dotP a[i] y) (t + x[i] * dotP b[i] y) (by omega) (by omega) (by omega) (by omega)
    rw [show ((i : Int) + 1) = ((i + 1 : Nat) : Int) by omega, this, List.drop_eq_getElem_cons h1, List.drop_eq_getElem_cons h2, List.drop_eq_getElem_cons h3]
    simp only [payP, Int.add_assoc]
theorem spec_l1 (a b : List (List Int)) (x y : List Int) (m n : Nat) (hm : m ≤ 3) (hn : n ≤ 3) (ha : Shape a m n) (hb : Shape b m n) (hx : x.length = m) (hy : y.length = n) (bx : ∀ v ∈ x, v.natAbs ≤ 1000) (by_ : ∀ v ∈ y, v.natAbs ≤ 1000) (i : Nat) (hi : i < x.length) (h2 : i < a.length) (h3 : i < b.length) (d : Nat) :
    ∀ (k j : Nat) (s t : Int), j + d = n → s.natAbs ≤ i * 27000000 + j * 9000000 → t.natAbs ≤ i * 27000000 + j * 9000000 →
      spec_PayOf.l1 (k + d + 1) x y s t i x[i] x (x.length : Int) i y (y.length : Int) j a b = spec_PayOf.l0 k x y (s + x[i] * dotP (a[i].drop j) (y.drop j)) (t + x[i] * dotP (b[i].drop j) (y.drop j)) x (x.length : Int) ((i + 1 : Nat) : Int) a b := by
  have ra := ha.rows _ (List.getElem_mem h2)
  have rb := hb.rows _ (List.getElem_mem h3)
  have hu := bx _ (List.getElem_mem hi)
  have la := ha.len
  have lb := hb.len
  induction d with
  | zero =>
    intro k j s t hj hs ht
    simp only [spec_PayOf.l1]
    rw [if_neg (by omega), wrap_id (by omega) (by omega), List.drop_of_length_le (show y.length ≤ j by omega), show ((i : Int) + 1) = ((i + 1 : Nat) : Int) by omega]
    have e : ∀ l : List Int, dotP l [] = 0 := fun l => by cases l <;> rfl
    rw [e, e]
    simp
  | succ d ih =>
    intro k j s t hj hs ht
    have h4 : j < y.length := by omega
    have h5 : j < a[i].length := by omega
    have h6 : j < b[i].length := by omega
    have hv := by_ _ (List.getElem_mem h4)
    have uv := mul_bd (A := 1000) (B := 1000) hu hv
    have ma := mul_bd (A := 1000000) (B := 9) uv (ra.2 _ (List.getElem_mem h5))
    have mb := mul_bd (A := 1000000) (B := 9) uv (rb.2 _ (List.getElem_mem h6))
    have := ih k (j + 1) (s + x[i] * y[j] * a[i][j]) (t + x[i] * y[j] * b[i][j]) (by omega) (by omega) (by omega)
    rw [show k + (d + 1) + 1 = (k + d + 1) + 1 from rfl]
    generalize k + d + 1 = q at this ⊢
    simp only [spec_PayOf.l1]
    rw [if_pos (by omega), if_pos (by omega), if_pos (by omega), if_pos (by omega), if_pos (by omega), show rd_L1 a (i : Int) = a[i] by simp [rd_L1, List.getD, List.getElem?_eq_getElem h2], show rd_L1 b (i : Int) = b[i] by simp [rd_L1, List.getD, List.getElem?_eq_getElem h3], if_pos (by omega), if_pos (by omega), if_pos (by omega), rd_getElem h4, rd_getElem h5, rd_getElem h6]
    rw [wrap_id (x := x[i] * y[j]) (by omega) (by omega), wrap_id (x := x[i] * y[j] * a[i][j]) (by omega) (by omega), wrap_id (x := x[i] * y[j] * b[i][j]) (by omega) (by omega), wrap_id (x := s + x[i] * y[j] * a[i][j]) (by omega) (by omega), wrap_id (x := t + x[i] * y[j] * b[i][j]) (by omega) (by omega), wrap_id (by omega) (by omega)]
    rw [show ((j : Int) + 1) = ((j + 1 : Nat) : Int) by omega, this, List.drop_eq_getElem_cons h4, List.drop_eq_getElem_cons h5, List.drop_eq_getElem_cons h6]
    simp only [dotP]
    have e : ∀ (p u v q D : Int), p + u * v * q + u * D = p + u * (q * v + D) := fun p u v q D => by rw [Int.mul_add, Int.mul_assoc, Int.mul_comm v q, Int.add_assoc]
    rw [e, e]
theorem spec_l0 (a b : List (List Int)) (x y : List Int) (m n : Nat) (hm : m ≤ 3) (hn : n ≤ 3) (ha : Shape a m n) (hb : Shape b m n) (hx : x.length = m) (hy : y.length = n) (bx : ∀ v ∈ x, v.natAbs ≤ 1000) (by_ : ∀ v ∈ y, v.natAbs ≤ 1000) (d : Nat) :
    ∀ (k i : Nat) (s t : Int), i + d = m → s.natAbs ≤ i * 27000000 → t.natAbs ≤ i * 27000000 → spec_PayOf.l0 (k + 2000 + (n + 2) * d) x y s t x (x.length : Int) i a b = some (s + payP (x.drop i) (a.drop i) y, t + payP (x.drop i) (b.drop i) y, x.sum * y.sum, true) := by
  have hbig : ∀ v ∈ y, v.natAbs ≤ 1000000 := fun v hv => by have := by_ v hv; omega
  induction d with
  | zero =>
    intro k i s t hi hs ht
    rw [show k + 2000 + (n + 2) * 0 = (k + 1999) + 1 by omega]
    simp only [spec_PayOf.l0]
    have bs := sum_bd 1000 x bx
    have bt := sum_bd 1000 y by_
    rw [hx] at bs
    rw [hy] at bt
    have bst := mul_bd (A := 3000) (B := 3000) (a := x.sum) (b := y.sum) (by omega) (by omega)
    rw [if_neg (by omega), specSum x (fun v hv => by have := bx v hv; omega) (by omega) (k + 1999) (by omega), Option.bind_some, specSum y hbig (by omega) (k + 1999) (by omega), Option.bind_some, List.drop_of_length_le (show x.length ≤ i by omega), wrap_id (by omega) (by omega)]
    simp [payP]
  | succ d ih =>
    intro k i s t hi hs ht
    have h1 : i < x.length := by omega
    have h2 : i < a.length := by rw [ha.len]; omega
    have h3 : i < b.length := by rw [hb.len]; omega
    have ra := ha.rows _ (List.getElem_mem h2)
    have rb := hb.rows _ (List.getElem_mem h3)
    have da := dotP_bd 9 1000 a[i] y ra.2 by_
    have db := dotP_bd 9 1000 b[i] y rb.2 by_
    rw [ra.1] at da
    rw [rb.1] at db
    have hu := bx _ (List.getElem_mem h1)
    have ma := mul_bd (A := 1000) (B := 27000) hu (show (dotP a[i] y).natAbs ≤ 27000 by omega)
    have mb := mul_bd (A := 1000) (B := 27000) hu (show (dotP b[i] y).natAbs ≤ 27000 by omega)
    have e1 := spec_l1 a b x y m n hm hn ha hb hx hy bx by_ i h1 h2 h3 n (k + 2000 + (n + 2) * d) 0 s t (by omega) (by rw [Nat.zero_mul, Nat.add_zero]; exact hs) (by rw [Nat.zero_mul, Nat.add_zero]; exact ht)
    rw [show k + 2000 + (n + 2) * (d + 1) = ((k + 2000 + (n + 2) * d) + n + 1) + 1 by rw [Nat.mul_succ]; omega]
    generalize k + 2000 + (n + 2) * d + n + 1 = q at e1 ⊢
    simp only [spec_PayOf.l0]
    rw [if_pos (by omega), if_pos (by omega), if_pos (by omega), rd_getElem h1]
    rw [show ((0 : Nat) : Int) = 0 from rfl] at e1
    rw [e1, List.drop_zero, List.drop_zero, List.drop_zero, ih k (i + 1) (s + x[i] * dotP a[i] y) (t + x[i] * dotP b[i] y) (by omega) (by omega) (by omega), List.drop_eq_getElem_cons h1, List.drop_eq_getElem_cons h2, List.drop_eq_getElem_cons h3]
    simp only [payP, Int.add_assoc]
theorem shape_of {a : List (List Int)} (h : table a = true) : Shape a a.length (a.getD 0 []).length ∧ 1 ≤ a.length ∧ a.length ≤ 3 ∧ 1 ≤ (a.getD 0 []).length ∧ (a.getD 0 []).length ≤ 3 := by
  unfold table at h
  simp only [Bool.and_eq_true, inB_iff, List.all_eq_true, decide_eq_true_eq] at h
  obtain ⟨h1, h2, h3⟩ := h
  refine ⟨⟨rfl, fun r hr => ?_⟩, by omega, by omega, by omega, by omega⟩
  obtain ⟨h4, h5⟩ := h3 r hr
  exact ⟨by omega, fun v hv => by have := h5 v hv; omega⟩
theorem weights_all {l : List Int} {n : Int} (h : weights l n = true) : (l.length : Int) = n ∧ ∀ v ∈ l, 0 ≤ v ∧ v ≤ 1000000 := by
  unfold weights at h
  simp only [Bool.and_eq_true, List.all_eq_true, decide_eq_true_eq, inB_iff] at h
  exact ⟨h.1, h.2.1⟩
/-- A game and weights for both players. -/
def pair (a b : List (List Int)) (x y : List Int) : Bool := game a b && (weights x (a.length : Int) && weights y ((a.getD 0 []).length : Int))
theorem spec_pair (a b : List (List Int)) (x y : List Int) (ha : Small a) (hb : Small b) (hx : x.length ≤ 1048576) (hy : y.length ≤ 1048576) (k : Nat) (hk : 3000000 < k) : spec_gmBoth.f k a b x y = some (pair a b x y) := by
  unfold spec_gmBoth.f pair
  rw [spec_game a b ha hb k (by omega), Option.bind_some]
  cases e : game a b with
  | false => rfl
  | true =>
    have h0 : 0 < a.length := by unfold game at e; simp only [Bool.and_eq_true] at e; exact table_pos e.1
    rw [if_pos rfl, specWeights x _ (by omega) k (by omega), Option.bind_some, Bool.true_and]
    cases e2 : weights x (a.length : Int) with
    | false => rfl
    | true => rw [if_pos rfl, if_pos (by omega), show rd_L1 a 0 = a.getD 0 [] from rfl, specWeights y _ (by omega) k (by omega)]; rfl
theorem impl_pair (a b : List (List Int)) (x y : List Int) (hx : x.length ≤ 1048576) (hy : y.length ≤ 1048576) (k : Nat) (hk : 3000000 < k) : impl_isPair.f k a b x y = some (pair a b x y) := by
  unfold impl_isPair.f pair
  rw [impl_game a b, Option.bind_some]
  cases e : game a b with
  | false => rfl
  | true =>
    have h0 : 0 < a.length := by unfold game at e; simp only [Bool.and_eq_true] at e; exact table_pos e.1
    rw [if_pos rfl, show impl_Game_m.f a b = some (a.length : Int) from rfl, Option.bind_some, implWeights x _ (by omega) k (by omega), Option.bind_some, Bool.true_and]
    cases e2 : weights x (a.length : Int) with
    | false => rfl
    | true =>
      rw [if_pos rfl, show impl_Game_n.f a b = some ((a.getD 0 []).length : Int) by unfold impl_Game_n.f; rw [if_pos (by omega)]; rfl, Option.bind_some, implWeights y _ (by omega) k (by omega)]
      rfl
theorem mono_impl (a b : List (List Int)) (x y : List Int) {r : Int × Int × Int × Bool} {k k' : Nat} (h : k ≤ k') (e : impl_PayOf.f k a b x y = some r) : impl_PayOf.f k' a b x y = some r := at_rounds (impl_PayOf.mono a b x y) h e
theorem same (a b : List (List Int)) (x y : List Int) (ha : Small a) (hb : Small b) (hx : x.length ≤ 1048576) (hy : y.length ≤ 1048576) : ∃ p q r t, ∀ k, 3500000 < k → spec_PayOf.f k a b x y = some (p, q, r, t) ∧ impl_PayOf.f k a b x y = some (p, q, r, t) := by
  cases e : pair a b x y with
  | false =>
    refine ⟨0, 0, 0, false, fun k hk => ?_⟩
    obtain ⟨k, rfl⟩ : ∃ m, k = m + 1 := ⟨k - 1, by omega⟩
    constructor
    · unfold spec_PayOf.f
      rw [spec_pair a b x y ha hb hx hy _ (by omega), e, Option.bind_some, if_neg (by decide)]
      rfl
    · unfold impl_PayOf.f
      rw [impl_pair a b x y hx hy _ (by omega), e, Option.bind_some, if_neg (by decide)]
      rfl
  | true =>
    have e' := e
    unfold pair game at e'
    simp only [Bool.and_eq_true, decide_eq_true_eq] at e'
    obtain ⟨⟨ta, tb, el, er⟩, wx, wy⟩ := e'
    obtain ⟨sa, a1, a3, n1, n3⟩ := shape_of ta
    obtain ⟨sb, _⟩ := shape_of tb
    rw [show b.length = a.length by omega, show (b.getD 0 []).length = (a.getD 0 []).length by omega] at sb
    obtain ⟨lx, bx⟩ := weights_all wx
    obtain ⟨ly, by_⟩ := weights_all wy
    have px : 0 < x.length := by omega
    have py : 0 < y.length := by omega
    by_cases hs : (∀ v ∈ x, v ≤ 1000) ∧ ∀ v ∈ y, v ≤ 1000
    · have cx : ∀ v ∈ x, v.natAbs ≤ 1000 := fun v hv => by have := bx v hv; have := hs.1 v hv; omega
      have cy : ∀ v ∈ y, v.natAbs ≤ 1000 := fun v hv => by have := by_ v hv; have := hs.2 v hv; omega
      have ax : x.all (inB 0 1000) = true := List.all_eq_true.mpr fun v hv => (inB_iff _ _ _).mpr ⟨(bx v hv).1, hs.1 v hv⟩
      have ay : y.all (inB 0 1000) = true := List.all_eq_true.mpr fun v hv => (inB_iff _ _ _).mpr ⟨(by_ v hv).1, hs.2 v hv⟩
      refine ⟨payP x a y, payP x b y, x.sum * y.sum, true, fun k hk => ⟨?_, ?_⟩⟩
      · unfold spec_PayOf.f
        rw [spec_pair a b x y ha hb hx hy _ (by omega), e, Option.bind_some, if_pos rfl, l1All_is _ _ _ (by omega) _ (by omega), ax, Option.bind_some, if_pos rfl, l1All_is _ _ _ (by omega) _ (by omega), ay, Option.bind_some]
        obtain ⟨k, rfl⟩ : ∃ m, k = m + 1 := ⟨k - 1, by omega⟩
        simp only [spec_PayOf.j0, Bool.not_true, Bool.false_eq_true, if_false]
        have hb2 : ((a.getD 0 []).length + 2) * a.length ≤ 5 * 3 := Nat.mul_le_mul (by omega) a3
        have := spec_l0 a b x y a.length (a.getD 0 []).length a3 n3 sa sb (by omega) (by omega) cx cy a.length (k - 2000 - ((a.getD 0 []).length + 2) * a.length) 0 0 0 (by omega) (by omega) (by omega)
        rw [show k - 2000 - ((a.getD 0 []).length + 2) * a.length + 2000 + ((a.getD 0 []).length + 2) * a.length = k by omega] at this
        simpa using this
      · unfold impl_PayOf.f
        rw [impl_pair a b x y hx hy _ (by omega), e, Option.bind_some, if_pos rfl, max_is x px (by omega) _ (by omega), Option.bind_some, max_is y py (by omega) _ (by omega), Option.bind_some]
        have h1 : mx (maxL x) (maxL y) ≤ 1000 := (mx_le _ _ _).mpr ⟨(maxL_le _ _ px).mpr hs.1, (maxL_le _ _ py).mpr hs.2⟩
        rw [decide_eq_false (by omega)]
        obtain ⟨k, rfl⟩ : ∃ m, k = m + 1 := ⟨k - 1, by omega⟩
        simp only [impl_PayOf.j0, Bool.false_eq_true, if_false]
        have := impl_l0 a b x y a.length (a.getD 0 []).length a3 n3 sa sb (by omega) (by omega) cx cy a.length k 0 0 0 (by omega) (by omega) (by omega) (by omega)
        simpa using this
    · refine ⟨0, 0, 0, false, fun k hk => ⟨?_, ?_⟩⟩
      · unfold spec_PayOf.f
        rw [spec_pair a b x y ha hb hx hy _ (by omega), e, Option.bind_some, if_pos rfl, l1All_is _ _ _ (by omega) _ (by omega), Option.bind_some]
        obtain ⟨k, rfl⟩ : ∃ m, k = m + 1 := ⟨k - 1, by omega⟩
        cases ax : x.all (inB 0 1000) with
        | false => rfl
        | true =>
          rw [if_pos rfl, l1All_is _ _ _ (by omega) _ (by omega), Option.bind_some]
          cases ay : y.all (inB 0 1000) with
          | false => rfl
          | true => exact absurd ⟨fun v hv => ((inB_iff _ _ _).mp (List.all_eq_true.mp ax v hv)).2, fun v hv => ((inB_iff _ _ _).mp (List.all_eq_true.mp ay v hv)).2⟩ hs
      · unfold impl_PayOf.f
        rw [impl_pair a b x y hx hy _ (by omega), e, Option.bind_some, if_pos rfl, max_is x px (by omega) _ (by omega), Option.bind_some, max_is y py (by omega) _ (by omega), Option.bind_some]
        have h1 : ¬ mx (maxL x) (maxL y) ≤ 1000 := fun h => hs ⟨(maxL_le _ _ px).mp ((mx_le _ _ _).mp h).1, (maxL_le _ _ py).mp ((mx_le _ _ _).mp h).2⟩
        rw [decide_eq_true (by omega)]
        obtain ⟨k, rfl⟩ : ∃ m, k = m + 1 := ⟨k - 1, by omega⟩
        rfl
theorem told (a b : List (List Int)) (x y : List Int) (ha : a.length ≤ maxLen) (hb : b.length ≤ maxLen) (hma : ∀ l ∈ a, l.length ≤ maxLen) (hmb : ∀ l ∈ b, l.length ≤ maxLen) : laws_FnExactPayOf.f 4000000 a b x y = some true := by
  unfold laws_FnExactPayOf.f
  by_cases g1 : (x.length : Int) > 1048576
  · rw [if_pos g1]
  rw [if_neg g1]
  by_cases g2 : (y.length : Int) > 1048576
  · rw [if_pos g2]
  rw [if_neg g2]
  obtain ⟨r, hs, hr⟩ := szGame_is a b ha hb hma hmb
  rw [hr _ (by omega), Option.bind_some]
  by_cases h : r < 0
  · rw [if_pos h]
  obtain ⟨h1, h2⟩ := hs (by omega)
  obtain ⟨p, q, u, t, hk⟩ := same a b x y h1 h2 (by omega) (by omega)
  rw [if_neg h, toGame_is a b h1 h2 _ (by omega), toIntS_is x (by omega) _ (by omega), toIntS_is y (by omega) _ (by omega)]
  simp only [Option.bind_some]
  rw [(hk 4000000 (by omega)).1, (hk 4000000 (by omega)).2]
  simp only [Option.bind_some, if_true, bne_self_eq_false, laws_FnExactPayOf.j0, Bool.false_eq_true, if_false]
  rw [toGame_is a b h1 h2 _ (by omega)]
  simp only [Option.bind_some]
  rw [eqGame_same a b h1 h2 _ (by omega), toIntS_is x (by omega) _ (by omega), toIntS_is y (by omega) _ (by omega)]
  simp only [Option.bind_some, if_true]
  rw [eqIntS_same x (by omega) _ (by omega), eqIntS_same y (by omega) _ (by omega)]
  simp
end ofFnExactPayOf
theorem FnExactPayOf (A0 : Option Addr) (len0 cap0 : Nat) (l0 : List (List Int)) (B0 : Option Addr) (lenb0 capb0 : Nat) (m0 : List (List Int)) (A1 : Option Addr) (len1 cap1 : Nat) (l1 : List Int) (A2 : Option Addr) (len2 cap2 : Nat) (l2 : List Int) (w : World) (H0 : Lists w A0 len0 cap0 l0) (J0 : Lists w B0 lenb0 capb0 m0) (H1 : Ints w A1 len1 cap1 l1) (H2 : Ints w A2 len2 cap2 l2) :
    Calls Try.prog 7 #[.agg #[.slice A0 len0 cap0, .slice B0 lenb0 capb0], .slice A1 len1 cap1, .slice A2 len2 cap2] w fun e w' => e = .returned (.bool true) ∧ Below w.heap.size w w' := by
  obtain ⟨rfl, hr1, hc1, hm1, hml1, _⟩ := H0
  obtain ⟨rfl, hr2, hc2, hm2, hml2, _⟩ := J0
  obtain ⟨rfl, hr3, hc3, _, _⟩ := H1
  obtain ⟨rfl, hr4, hc4, _, _⟩ := H2
  exact laws_FnExactPayOf.calls 4000000 A0 cap0 l0 B0 capb0 m0 A1 cap1 l1 A2 cap2 l2 true w hr1 hc1 hr2 hc2 hr3 hc3 hr4 hc4 (ofFnExactPayOf.told l0 m0 l1 l2 hm1 hm2 hml1 hml2)
end Go.Proofs.Yteikfmoklpokhaa.Pure

