/- Labels of a map: the reference and the program come to the same. -/
import Derived.Test.YtmodnjljgcmdlaaQLx0
import Derived.Test.YtmodnjljgcmdlaaQLx2
import Derived.Test.YtmodnjljgcmdlaaQLx3
import Derived.Test.YtmodnjljgcmdlaaQLx4
import Derived.Test.YtmodnjljgcmdlaaQLx1
import Derived.Test.YtmodnjljgcmdlaaQLEqs
import Derived.Test.YtmodnjljgcmdlaaQLEqsR
import Derived.Test.YtmodnjljgcmdlaaQLMapA
import Derived.Test.YtmodnjljgcmdlaaQLMapG
import Derived.Test.YtmodnjljgcmdlaaQLMapM
namespace Go.Proofs.Ytmodnjljgcmdlaa.Maps
open Go.RowKit Go.Proofs.Ytmodnjljgcmdlaa.All Go.Proofs.Ytmodnjljgcmdlaa.Eqs Go.Proofs.Ytmodnjljgcmdlaa.L1 Go.Proofs.YtmodnjljgcmdlaaW.PrintWords Go.Proofs.YtmodnjljgcmdlaaW.PrintLast Go.Proofs.YtmodnjljgcmdlaaW.PrintMore
/-- The label of a point by its image. -/
def labP (x y z p0 p1 p2 : Int) : Int :=
  if x < wrap64 (3 * p0) then 0 else if y < wrap64 (3 * p1) then 1 else if z < wrap64 (3 * p2) then 2 else if p0 = 0 then (if p1 = 0 then 2 else 1) else 0
theorem labels_put (n : Int) (out : List Int) (ho : out.length ≤ 100) (ls : List (List Int)) (len i : Int) (p : List Int) (x9 : Int) (h9 : x9 ≠ 3) (R : List Int) (hR : Ev (fun k => spec_fxLabels.l0 k n (out ++ [x9]) ls len (wrap64 (i + 1))) R) : Ev (fun k => spec_fxLabels.j2 k n out p x9 ls len i) R :=
  Ev.step (fun k => by simp only [spec_fxLabels.j2]; rw [if_neg h9, if_pos (by omega)]) hR
theorem labels_l1 (n : Int) (out : List Int) (ho : out.length ≤ 100) (ls : List (List Int)) (len i : Int) (x y z p0 p1 p2 : Int) (hp : ¬ (p0 = 0 ∧ p1 = 0 ∧ p2 = 0)) (R : List Int) (hR : Ev (fun k => spec_fxLabels.l0 k n (out ++ [labP x y z p0 p1 p2]) ls len (wrap64 (i + 1))) R) :
    Ev (fun k => spec_fxLabels.l1 k n out [x, y, z] [p0, p1, p2] 0 ls len i) R := by
  have w1 : wrap64 (0 + 1) = 1 := by rw [wrap_id (by omega) (by omega)]; rfl
  have w2 : wrap64 (1 + 1) = 2 := by rw [wrap_id (by omega) (by omega)]; rfl
  have w3 : wrap64 (2 + 1) = 3 := by rw [wrap_id (by omega) (by omega)]; rfl
  have l3 : ∀ a b c : Int, ((([a, b, c] : List Int).length : Int)) = 3 := fun _ _ _ => rfl
  unfold labP at hR
  by_cases c0 : x < wrap64 (3 * p0)
  · rw [if_pos c0] at hR
    exact Ev.step (fun k => by simp only [spec_fxLabels.l1]; rw [if_pos (by omega), if_pos (by omega), l3, if_pos (by omega), l3, if_pos (by omega), show rd [x, y, z] 0 = x from rfl, show rd [p0, p1, p2] 0 = p0 from rfl, if_neg (by omega)]) (labels_put n out ho ls len i _ 0 (by omega) R hR)
  rw [if_neg c0] at hR
  refine Ev.step (fun k => by simp only [spec_fxLabels.l1]; rw [if_pos (by omega), if_pos (by omega), l3, if_pos (by omega), l3, if_pos (by omega), show rd [x, y, z] 0 = x from rfl, show rd [p0, p1, p2] 0 = p0 from rfl, if_pos (by omega), w1]) ?_
  by_cases c1 : y < wrap64 (3 * p1)
  · rw [if_pos c1] at hR
    exact Ev.step (fun k => by simp only [spec_fxLabels.l1]; rw [if_pos (by omega), if_pos (by omega), l3, if_pos (by omega), l3, if_pos (by omega), show rd [x, y, z] 1 = y from rfl, show rd [p0, p1, p2] 1 = p1 from rfl, if_neg (by omega)]) (labels_put n out ho ls len i _ 1 (by omega) R hR)
  rw [if_neg c1] at hR
  refine Ev.step (fun k => by simp only [spec_fxLabels.l1]; rw [if_pos (by omega), if_pos (by omega), l3, if_pos (by omega), l3, if_pos (by omega), show rd [x, y, z] 1 = y from rfl, show rd [p0, p1, p2] 1 = p1 from rfl, if_pos (by omega), w2]) ?_
  by_cases c2 : z < wrap64 (3 * p2)
  · rw [if_pos c2] at hR
    exact Ev.step (fun k => by simp only [spec_fxLabels.l1]; rw [if_pos (by omega), if_pos (by omega), l3, if_pos (by omega), l3, if_pos (by omega), show rd [x, y, z] 2 = z from rfl, show rd [p0, p1, p2] 2 = p2 from rfl, if_neg (by omega)]) (labels_put n out ho ls len i _ 2 (by omega) R hR)
  rw [if_neg c2] at hR
  refine Ev.step (fun k => by simp only [spec_fxLabels.l1]; rw [if_pos (by omega), if_pos (by omega), l3, if_pos (by omega), l3, if_pos (by omega), show rd [x, y, z] 2 = z from rfl, show rd [p0, p1, p2] 2 = p2 from rfl, if_pos (by omega), w3]) ?_
  refine Ev.step (fun k => by simp only [spec_fxLabels.l1]; rw [if_neg (by omega)]) ?_
  refine Ev.step (fun k => show spec_fxLabels.j2 (k + 1) n out [p0, p1, p2] 3 ls len i = spec_fxLabels.l2 k n out [p0, p1, p2] 0 ls len i from rfl) ?_
  by_cases d0 : p0 = 0
  · rw [if_pos d0] at hR
    refine Ev.step (fun k => by simp only [spec_fxLabels.l2]; rw [if_pos (by omega), l3, if_pos (by omega), show rd [p0, p1, p2] 0 = p0 from rfl, if_pos d0, w1]) ?_
    by_cases d1 : p1 = 0
    · rw [if_pos d1] at hR
      refine Ev.step (fun k => by simp only [spec_fxLabels.l2]; rw [if_pos (by omega), l3, if_pos (by omega), show rd [p0, p1, p2] 1 = p1 from rfl, if_pos d1, w2]) ?_
      exact Ev.step (fun k => by simp only [spec_fxLabels.l2]; rw [if_pos (by omega), l3, if_pos (by omega), show rd [p0, p1, p2] 2 = p2 from rfl, if_neg (fun h => hp ⟨d0, d1, h⟩), if_pos (by omega)]) hR
    · rw [if_neg d1] at hR
      exact Ev.step (fun k => by simp only [spec_fxLabels.l2]; rw [if_pos (by omega), l3, if_pos (by omega), show rd [p0, p1, p2] 1 = p1 from rfl, if_neg d1, if_pos (by omega)]) hR
  · rw [if_neg d0] at hR
    exact Ev.step (fun k => by simp only [spec_fxLabels.l2]; rw [if_pos (by omega), l3, if_pos (by omega), show rd [p0, p1, p2] 0 = p0 from rfl, if_neg d0, if_pos (by omega)]) hR
theorem first3 (q : Nat → Bool) : firstAt q 3 0 = if q 0 = true then 0 else if q 1 = true then 1 else if q 2 = true then 2 else -1 := by
  simp only [firstAt]
  rfl
/-- What the program's two searches come to. -/
theorem label_at (ls : List (List Int)) (i : Nat) (hi : i < ls.length) (x y z p0 p1 p2 : Int) (hrow : ls[i] = [x, y, z]) (hp : ¬ (p0 = 0 ∧ p1 = 0 ∧ p2 = 0)) :
    ∃ t, impl_mapFirst.f [0, 1, 2] ls (i : Int) p0 p1 p2 = some t ∧ ((0 ≤ t ∧ t = labP x y z p0 p1 p2) ∨ (t < 0 ∧ impl_notZero.f [p0, p1, p2] = some (labP x y z p0 p1 p2))) := by
  have hg : ls.getD ((i : Int)).toNat [] = [x, y, z] := by rw [Int.toNat_natCast, List.getD, List.getElem?_eq_getElem hi, hrow]; rfl
  have hin : mapIn ls (i : Int) [0, 1, 2] = true := by
    unfold mapIn
    rw [hg]
    simp
    omega
  refine ⟨_, by unfold impl_mapFirst.f; rw [if_pos hin], ?_⟩
  have e0 : ([0, 1, 2] : List Int).length = 3 := rfl
  have m0 : mapQ ls (i : Int) p0 p1 p2 0 = decide (x < wrap64 (3 * p0)) := by unfold mapQ; rw [hg]; rfl
  have m1 : mapQ ls (i : Int) p0 p1 p2 1 = decide (y < wrap64 (3 * p1)) := by unfold mapQ; rw [hg]; rfl
  have m2 : mapQ ls (i : Int) p0 p1 p2 2 = decide (z < wrap64 (3 * p2)) := by unfold mapQ; rw [hg]; rfl
  rw [e0, first3]
  show (0 ≤ (if mapQ ls (i : Int) p0 p1 p2 0 = true then (0 : Int) else if mapQ ls (i : Int) p0 p1 p2 1 = true then 1 else if mapQ ls (i : Int) p0 p1 p2 2 = true then 2 else -1) ∧ _) ∨ _
  show _ ∨ ((if mapQ ls (i : Int) p0 p1 p2 0 = true then (0 : Int) else if mapQ ls (i : Int) p0 p1 p2 1 = true then 1 else if mapQ ls (i : Int) p0 p1 p2 2 = true then 2 else -1) < 0 ∧ _)
  rw [m0, m1, m2]
  simp only [decide_eq_true_eq]
  unfold labP
  by_cases c0 : x < wrap64 (3 * p0)
  · left; simp [c0, m0]
  by_cases c1 : y < wrap64 (3 * p1)
  · left; simp [c0, c1, m0, m1]
  by_cases c2 : z < wrap64 (3 * p2)
  · left; simp [c0, c1, c2, m0, m1, m2]
  right
  refine ⟨by simp [c0, c1, c2], ?_⟩
  rw [if_neg c0, if_neg c1, if_neg c2]
  unfold impl_notZero.f
  rw [show ([p0, p1, p2] : List Int).length = 3 from rfl, first3]
  show some (if (p0 != 0) = true then (0 : Int) else if (p1 != 0) = true then 1 else if (p2 != 0) = true then 2 else -1) = _
  by_cases d0 : p0 = 0
  · by_cases d1 : p1 = 0
    · have d2 : p2 ≠ 0 := fun h => hp ⟨d0, d1, h⟩
      simp [d0, d1, d2]
    · simp [d0, d1]
  · simp [d0]
def labsP (ps : List S60) (ls : List (List Int)) (i : Nat) : Int := labP (rd (ls.getD i []) 0) (rd (ls.getD i []) 1) (rd (ls.getD i []) 2) (rd_T60 ps i).f0 (rd_T60 ps i).f1 (rd_T60 ps i).f2
theorem mapLabels_l0 (n : Int) (h1 : 1 ≤ n) (ls : List (List Int)) (ps : List S60) (hlen : ls.length = ps.length) (h45 : ps.length ≤ 45) (hrows : ∀ r ∈ ls, r.length = 3)
    (hp : ∀ i : Nat, i < ps.length → Ev (fun k => spec_meAt.f k n i) [(rd_T60 ps i).f0, (rd_T60 ps i).f1, (rd_T60 ps i).f2] ∧ 0 ≤ (rd_T60 ps i).f0 ∧ 0 ≤ (rd_T60 ps i).f1 ∧ 0 ≤ (rd_T60 ps i).f2 ∧ (rd_T60 ps i).f0 + (rd_T60 ps i).f1 + (rd_T60 ps i).f2 = n) (d : Nat) :
    ∀ (i : Nat), i + d = ls.length → Ev (fun k => spec_fxLabels.l0 k n ((List.range i).map (labsP ps ls)) ls (ls.length : Int) i) ((List.range ls.length).map (labsP ps ls)) ∧ Ev (fun k => impl_mapLabels.l0 k ((List.range i).map (labsP ps ls)) ps (ps.length : Int) i ls) ((List.range ls.length).map (labsP ps ls)) := by
  induction d with
  | zero =>
    intro i hi
    obtain rfl : i = ls.length := by omega
    exact ⟨Ev.step (fun k => by simp only [spec_fxLabels.l0]; rw [if_neg (by omega)]) (Ev.now _), Ev.step (fun k => by simp only [impl_mapLabels.l0]; rw [if_neg (by omega)]) (Ev.now _)⟩
  | succ d ih =>
    intro i hi
    have hi1 : i < ls.length := by omega
    obtain ⟨x, y, z, hrow⟩ : ∃ x y z, ls[i] = [x, y, z] := three_of (l := ls[i]) (by have := hrows _ (List.getElem_mem hi1); omega)
    obtain ⟨q0, q1, q2, q3, q4⟩ := hp i (by omega)
    have hpn : ¬ ((rd_T60 ps i).f0 = 0 ∧ (rd_T60 ps i).f1 = 0 ∧ (rd_T60 ps i).f2 = 0) := by omega
    have hlab : labsP ps ls i = labP x y z (rd_T60 ps i).f0 (rd_T60 ps i).f1 (rd_T60 ps i).f2 := by
      unfold labsP
      rw [show ls.getD i [] = [x, y, z] by rw [List.getD, List.getElem?_eq_getElem hi1, hrow]; rfl]
      rfl
    obtain ⟨s1, s2⟩ := ih (i + 1) (by omega)
    rw [List.range_succ, List.map_append, List.map_cons, List.map_nil, hlab, ← upI (by omega)] at s1 s2
    have hout : ((List.range i).map (labsP ps ls)).length ≤ 100 := by simp; omega
    refine ⟨?_, ?_⟩
    · exact Ev.step (fun k => by simp only [spec_fxLabels.l0]; rw [if_pos (by omega), if_pos (by omega), if_pos (by omega), rdl_getElem hi1, hrow]) (Ev.bind q0 (labels_l1 n _ hout ls _ _ x y z _ _ _ hpn _ s1))
    · obtain ⟨t, ht, hcase⟩ := label_at ls i hi1 x y z _ _ _ hrow hpn
      rcases hcase with ⟨h0, rfl⟩ | ⟨h0, hnz⟩
      · exact Ev.step (fun k => by simp only [impl_mapLabels.l0]; rw [if_pos (by omega), if_pos (by omega), if_pos (by omega), ht, Option.bind_some, if_neg (by omega), if_pos (by omega)]) s2
      · exact Ev.step (fun k => by simp only [impl_mapLabels.l0]; rw [if_pos (by omega), if_pos (by omega), if_pos (by omega), ht, Option.bind_some, if_pos h0, hnz, Option.bind_some, if_pos (by omega)]) s2
theorem mapLabels_same (n : Int) (ls : List (List Int)) (hs : Small ls) : ∃ r t, r.length ≤ 1048576 ∧ ∃ K, ∀ k, K ≤ k → spec_MapLabels.f k n ls = some (r, t) ∧ impl_MapLabels.f k n ls = some (r, t) := by
  have h1 := specGood n ls hs
  have h2 := implGood n ls
  cases e : goodP n ls with
  | false =>
    rw [e] at h1 h2
    exact ⟨[], false, by simp, both (Ev.congr (fun k => by unfold spec_MapLabels.f; rfl) (Ev.bind h1 (Ev.now _))) (Ev.congr (fun k => by unfold impl_MapLabels.f; rfl) (Ev.bind h2 (Ev.now _)))⟩
  | true =>
    rw [e] at h1 h2
    obtain ⟨g1, g5, gl, gr⟩ := goodOf e
    obtain ⟨ps, p1, p2, p3, p4⟩ := ptsOf n g1 g5
    obtain ⟨s1, s2⟩ := mapLabels_l0 n g1 ls ps (by omega) p3 (fun r hr => (gr r hr).1) p4 ls.length 0 (by omega)
    have s1' : Ev (fun k => spec_fxLabels.f k n ls) ((List.range ls.length).map (labsP ps ls)) := s1
    have s2' : Ev (fun k => impl_mapLabels.f k n ls) ((List.range ls.length).map (labsP ps ls)) := Ev.congr (fun k => by unfold impl_mapLabels.f; rfl) (Ev.bind p1 s2)
    exact ⟨(List.range ls.length).map (labsP ps ls), true, by simp; omega, both (Ev.congr (fun k => by unfold spec_MapLabels.f; rfl) (Ev.bind h1 (Ev.congr (fun k => by rw [if_pos rfl]) (Ev.bind s1' (Ev.now _))))) (Ev.congr (fun k => by unfold impl_MapLabels.f; rfl) (Ev.bind h2 (Ev.congr (fun k => by rw [if_pos rfl]) (Ev.bind s2' (Ev.now _)))))⟩
end Go.Proofs.Ytmodnjljgcmdlaa.Maps

