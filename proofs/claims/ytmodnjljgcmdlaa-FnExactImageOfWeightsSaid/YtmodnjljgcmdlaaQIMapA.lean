/- Images: the reference's check and the program's are one plain function. -/
import Derived.Test.YtmodnjljgcmdlaaQIx0
import Derived.Test.YtmodnjljgcmdlaaQIx6
import Derived.Test.YtmodnjljgcmdlaaQIx1
import Derived.Test.YtmodnjljgcmdlaaQIx2
import Derived.Test.YtmodnjljgcmdlaaQIx3
import Derived.Test.YtmodnjljgcmdlaaQIEqs
import Derived.Test.YtmodnjljgcmdlaaQIEqsR
import Derived.Test.YtmodnjljgcmdlaaQIL1
namespace Go.Proofs.Ytmodnjljgcmdlaa.Maps
open Go.RowKit Go.Proofs.Ytmodnjljgcmdlaa.All Go.Proofs.Ytmodnjljgcmdlaa.Eqs Go.Proofs.Ytmodnjljgcmdlaa.L1 Go.Proofs.YtmodnjljgcmdlaaW.PrintWords Go.Proofs.YtmodnjljgcmdlaaW.PrintLast
theorem inB_iff (lo hi x : Int) : inB lo hi x = true ↔ lo ≤ x ∧ x ≤ hi := by unfold inB; simp
theorem upI {i : Nat} (h : i < 1152921504606846976) : wrap64 ((i : Int) + 1) = ((i + 1 : Nat) : Int) := by rw [wrap_id (by omega) (by omega)]; rfl
theorem rd_getElem {l : List Int} {i : Nat} (h : i < l.length) : rd l (i : Int) = l[i] := by simp [rd, List.getD, List.getElem?_eq_getElem h]
theorem rdl_getElem {l : List (List Int)} {i : Nat} (h : i < l.length) : rd_L1 l (i : Int) = l[i] := by simp [rd_L1, List.getD, List.getElem?_eq_getElem h]
/-- Both come to the same. -/
theorem both {α : Type} {f g : Nat → Option α} {r : α} (h1 : Ev f r) (h2 : Ev g r) : ∃ K, ∀ k, K ≤ k → f k = some r ∧ g k = some r := by
  obtain ⟨K1, h1⟩ := h1
  obtain ⟨K2, h2⟩ := h2
  exact ⟨max K1 K2, fun k hk => ⟨h1 k (by omega), h2 k (by omega)⟩⟩
/-! #### sums -/

theorem sum_l0 (x : List Int) (hx : ∀ v ∈ x, v.natAbs ≤ 1000000) (hl : x.length ≤ 1000) (d : Nat) : ∀ (i : Nat) (s : Int), i + d = x.length → s.natAbs ≤ i * 1000000 → Ev (fun k => impl_sum.l0 k s x (x.length : Int) i) (s + (x.drop i).sum) := by
  induction d with
  | zero =>
    intro i s hi hs
    rw [List.drop_of_length_le (show x.length ≤ i by omega), List.sum_nil, Int.add_zero]
    exact Ev.step (fun k => by simp only [impl_sum.l0]; rw [if_neg (by omega)]) (Ev.now s)
  | succ d ih =>
    intro i s hi hs
    have h1 : i < x.length := by omega
    have b1 := hx _ (List.getElem_mem h1)
    rw [List.drop_eq_getElem_cons h1, List.sum_cons, ← Int.add_assoc]
    exact Ev.step (fun k => by
      simp only [impl_sum.l0]
      rw [if_pos (by omega), if_pos (by omega), if_pos (by omega), rd_getElem h1, wrap_id (x := s + x[i]) (by omega) (by omega), upI (by omega)]) (ih (i + 1) (s + x[i]) (by omega) (by omega))
theorem evSum (x : List Int) (hx : ∀ v ∈ x, v.natAbs ≤ 1000000) (hl : x.length ≤ 1000) : Ev (fun k => impl_sum.f k x) x.sum := by
  have := sum_l0 x hx hl x.length 0 0 (by omega) (by omega)
  rw [List.drop_zero, Int.zero_add] at this
  exact this
theorem evAll (lo hi : Int) (l : List Int) (hl : l.length ≤ 1048576) : Ev (fun k => spec_l1All.f k l lo hi) (l.all (inB lo hi)) := ⟨l.length + 1, fun k hk => l1All_is lo hi l (by omega) k (by omega)⟩
/-! #### images -/
def imageP (n : Int) (l : List Int) : Bool := decide ((l.length : Int) = 3) && (l.all (inB 0 (3 * n)) && (l.getD 0 0 + l.getD 1 0 + l.getD 2 0 == 3 * n))
theorem three_of {l : List Int} (h : (l.length : Int) = 3) : ∃ x y z, l = [x, y, z] := by
  match l, h with
  | [x, y, z], _ => exact ⟨x, y, z, rfl⟩
theorem w3 {n : Int} (h1 : 1 ≤ n) (h5 : n ≤ 5) : wrap64 (3 * n) = 3 * n := wrap_id (by omega) (by omega)
theorem specImage (n : Int) (h1 : 1 ≤ n) (h5 : n ≤ 5) (l : List Int) (hl : l.length ≤ 1048576) : Ev (fun k => spec_fxPoint.f k n l) (imageP n l) := by
  have ha := evAll 0 (3 * n) l hl
  unfold imageP
  by_cases h3 : (l.length : Int) = 3
  · refine Ev.congr (fun k => by unfold spec_fxPoint.f; rw [if_pos h3, w3 h1 h5]) (Ev.bind ha ?_)
    rw [decide_eq_true h3, Bool.true_and]
    cases e : l.all (inB 0 (3 * n)) with
    | false => exact Ev.now _
    | true =>
      obtain ⟨x, y, z, rfl⟩ := three_of h3
      simp only [List.all_cons, List.all_nil, Bool.and_true, Bool.and_eq_true, inB_iff] at e
      refine Ev.congr (fun k => by rw [if_pos rfl]) ?_
      simp only [List.getD_cons_zero, List.getD_cons_succ, Bool.true_and]
      rw [wrap_id (x := x + y) (by omega) (by omega), wrap_id (x := x + y + z) (by omega) (by omega)]
      exact Ev.now _
  · rw [decide_eq_false h3, Bool.false_and]
    exact Ev.congr (fun k => by unfold spec_fxPoint.f; rw [if_neg h3]) (Ev.now _)
theorem implImage (n : Int) (h1 : 1 ≤ n) (h5 : n ≤ 5) (l : List Int) : Ev (fun k => impl_isImage.f k l (wrap64 (3 * n))) (imageP n l) := by
  rw [w3 h1 h5]
  unfold imageP
  by_cases h3 : (l.length : Int) = 3
  · rw [decide_eq_true h3, Bool.true_and]
    cases e : l.all (inB 0 (3 * n)) with
    | false => exact Ev.congr (fun k => by unfold impl_isImage.f; rw [if_pos h3, anyOut_is, e]; rfl) (Ev.now false)
    | true =>
      obtain ⟨x, y, z, rfl⟩ := three_of h3
      have e' := e
      simp only [List.all_cons, List.all_nil, Bool.and_true, Bool.and_eq_true, inB_iff] at e'
      have hs := evSum [x, y, z] (by
        intro v hv
        simp only [List.mem_cons, List.not_mem_nil, or_false] at hv
        rcases hv with rfl | rfl | rfl <;> omega) (by simp)
      refine Ev.congr (fun k => by unfold impl_isImage.f; rw [if_pos h3, anyOut_is, e]; rfl) (Ev.bind hs ?_)
      simp only [List.getD_cons_zero, List.getD_cons_succ, Bool.true_and, List.sum_cons, List.sum_nil, Int.add_zero, ← Int.add_assoc]
      exact Ev.now _
  · rw [decide_eq_false h3, Bool.false_and]
    exact Ev.congr (fun k => by unfold impl_isImage.f; rw [if_neg h3]) (Ev.now _)
/-- The number of points of a side. -/
def cnt (n : Int) : Int := wrap64 (Int.tdiv (wrap64 ((wrap64 (n + 1)) * (wrap64 (n + 2)))) 2)
def goodP (n : Int) (ls : List (List Int)) : Bool := inB 1 5 n && (decide ((ls.length : Int) = cnt n) && ls.all (imageP n))
theorem good_l0 (n : Int) (h1 : 1 ≤ n) (h5 : n ≤ 5) (ls : List (List Int)) (hs : Small ls) (d : Nat) : ∀ (i : Nat), i + d = ls.length → Ev (fun k => spec_fxGood.l0 k n ls (ls.length : Int) i) ((ls.drop i).all (imageP n)) := by
  have hl := hs.1
  induction d with
  | zero =>
    intro i hi
    rw [List.drop_of_length_le (show ls.length ≤ i by omega)]
    exact Ev.step (fun k => by simp only [spec_fxGood.l0]; rw [if_neg (by omega)]) (Ev.now true)
  | succ d ih =>
    intro i hi
    have hlt : i < ls.length := by omega
    rw [List.drop_eq_getElem_cons hlt, List.all_cons]
    refine Ev.step (fun k => by simp only [spec_fxGood.l0]; rw [if_pos (by omega), if_pos (by omega), if_pos (by omega), rdl_getElem hlt]) (Ev.bind (specImage n h1 h5 ls[i] (hs.2 _ (List.getElem_mem hlt))) ?_)
    cases imageP n ls[i] with
    | false => exact Ev.now _
    | true =>
      rw [Bool.true_and]
      exact Ev.congr (fun k => by rw [if_pos rfl, upI (by omega)]) (ih (i + 1) (by omega))
theorem specGood (n : Int) (ls : List (List Int)) (hs : Small ls) : Ev (fun k => spec_fxGood.f k n ls) (goodP n ls) := by
  unfold goodP
  refine Ev.congr (fun k => by unfold spec_fxGood.f spec_fxSide.f; rw [l1In_is, Option.bind_some, Option.bind_some]) ?_
  cases e : inB 1 5 n with
  | false => rw [Bool.false_and]; exact Ev.step (fun k => by rw [if_neg (by decide)]; simp only [spec_fxGood.j0]; rw [if_pos trivial]) (Ev.now _)
  | true =>
    have hb := (inB_iff _ _ _).mp e
    refine Ev.congr (fun k => by rw [if_pos rfl, show spec_meCount.f n = some (cnt n) from rfl, Option.bind_some]) ?_
    rw [Bool.true_and]
    by_cases h : (ls.length : Int) = cnt n
    · rw [decide_eq_true h, Bool.true_and]
      have := good_l0 n hb.1 hb.2 ls hs ls.length 0 (by omega)
      rw [List.drop_zero] at this
      exact Ev.step (fun k => by rw [bne_eq_false_iff_eq.mpr h]; simp only [spec_fxGood.j0]; rw [if_neg (by decide)]; rfl) this
    · rw [decide_eq_false h, Bool.false_and]
      exact Ev.step (fun k => by rw [bne_iff_ne.mpr h]; simp only [spec_fxGood.j0]; rw [if_pos trivial]) (Ev.now _)
theorem evRows (n : Int) (h1 : 1 ≤ n) (h5 : n ≤ 5) : ∀ ls : List (List Int), Ev (fun k => rowsAll k (wrap64 (3 * n)) ls) (ls.all (imageP n))
  | [] => Ev.now true
  | r :: rs => by
    rw [List.all_cons]
    exact Ev.bind (implImage n h1 h5 r) (Ev.bind (evRows n h1 h5 rs) (Ev.now _))
theorem implGood (n : Int) (ls : List (List Int)) : Ev (fun k => impl_AreImages.f k n ls) (goodP n ls) := by
  unfold goodP
  cases e : inB 1 5 n with
  | false => rw [Bool.false_and]; exact Ev.congr (fun k => by unfold impl_AreImages.f; rw [e, if_neg (by decide)]) (Ev.now _)
  | true =>
    have hb := (inB_iff _ _ _).mp e
    refine Ev.congr (fun k => by unfold impl_AreImages.f; rw [e, if_pos rfl, show impl_many.f n = some (cnt n) from rfl, Option.bind_some]) ?_
    rw [Bool.true_and]
    by_cases h : (ls.length : Int) = cnt n
    · rw [decide_eq_true h, Bool.true_and]
      exact Ev.congr (fun k => by rw [if_pos h]) (evRows n hb.1 hb.2 ls)
    · rw [decide_eq_false h, Bool.false_and]
      exact Ev.congr (fun k => by rw [if_neg h]) (Ev.now _)
end Go.Proofs.Ytmodnjljgcmdlaa.Maps

