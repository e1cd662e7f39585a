/- What weights make of points and of images: the reference and the program come to the same. -/
import Derived.Test.YtmodnjljgcmdlaaQIx0
import Derived.Test.YtmodnjljgcmdlaaQIx7
import Derived.Test.YtmodnjljgcmdlaaQIx1
import Derived.Test.YtmodnjljgcmdlaaQIx2
import Derived.Test.YtmodnjljgcmdlaaQIx3
import Derived.Test.YtmodnjljgcmdlaaQIx5
import Derived.Test.YtmodnjljgcmdlaaQIEqs
import Derived.Test.YtmodnjljgcmdlaaQIEqsR
import Derived.Test.YtmodnjljgcmdlaaQIL1
import Derived.Test.YtmodnjljgcmdlaaQIMapA
import Derived.Test.YtmodnjljgcmdlaaQIMapG
import Derived.Test.YtmodnjljgcmdlaaQIMapK
import Derived.Test.YtmodnjljgcmdlaaQIMapM
namespace Go.Proofs.Ytmodnjljgcmdlaa.Maps
open Go.RowKit Go.Proofs.Ytmodnjljgcmdlaa.All Go.Proofs.Ytmodnjljgcmdlaa.Eqs Go.Proofs.Ytmodnjljgcmdlaa.L1 Go.Proofs.YtmodnjljgcmdlaaW.PrintWords Go.Proofs.YtmodnjljgcmdlaaW.PrintLast Go.Proofs.YtmodnjljgcmdlaaW.PrintMore
/-- A row's numbers by a weight, added to what there is; the weight itself last. -/
def mixRow (o : List Int) (w : Int) (x : List Int) : List Int :=
  let o1 := o.set 0 (wrap64 (rd o 0 + wrap64 (w * rd x 0)))
  let o2 := o1.set 1 (wrap64 (rd o1 1 + wrap64 (w * rd x 1)))
  let o3 := o2.set 2 (wrap64 (rd o2 2 + wrap64 (w * rd x 2)))
  o3.set 3 (wrap64 (rd o3 3 + w))
def mixP (a b c : Int) (x y z : List Int) : List Int := mixRow (mixRow (mixRow [0, 0, 0, 0] a x) b y) c z
theorem mixS (a b c x0 x1 x2 y0 y1 y2 z0 z1 z2 : Int) (k : Nat) : spec_fxMix.f (k + 20) [[x0, x1, x2], [y0, y1, y2], [z0, z1, z2]] [a, b, c] = some (mixP a b c [x0, x1, x2] [y0, y1, y2] [z0, z1, z2]) := by kernel_rfl
theorem mixI (a b c x0 x1 x2 y0 y1 y2 z0 z1 z2 : Int) (k : Nat) : impl_mix.f (k + 20) [a, b, c] [[x0, x1, x2], [y0, y1, y2], [z0, z1, z2]] = some (mixP a b c [x0, x1, x2] [y0, y1, y2] [z0, z1, z2]) := by kernel_rfl
theorem step20 {α : Type} {f : Nat → Option α} {r : α} (h : ∀ k, f (k + 20) = some r) : Ev f r := ⟨20, fun k hk => by rw [show k = (k - 20) + 20 by omega]; exact h _⟩
theorem mixP_length (a b c : Int) (x y z : List Int) : (mixP a b c x y z).length = 4 := by simp [mixP, mixRow]
def mixedP (ws : List Int) : Bool := decide ((ws.length : Int) = 3) && (ws.all (inB 0 1000000) && decide (ws.getD 0 0 + ws.getD 1 0 + ws.getD 2 0 > 0))
theorem specGiven (ws : List Int) (hl : ws.length ≤ 1048576) : Ev (fun k => spec_fxGiven.f k ws) (mixedP ws) := by
  have ha := evAll 0 1000000 ws hl
  unfold mixedP
  by_cases h3 : (ws.length : Int) = 3
  · refine Ev.congr (fun k => by unfold spec_fxGiven.f; rw [if_pos h3]) (Ev.bind ha ?_)
    rw [decide_eq_true h3, Bool.true_and]
    cases e : ws.all (inB 0 1000000) with
    | false => exact Ev.now _
    | true =>
      obtain ⟨x, y, z, rfl⟩ := three_of h3
      simp only [List.all_cons, List.all_nil, Bool.and_true, Bool.and_eq_true, inB_iff] at e
      refine Ev.congr (fun k => by rw [if_pos rfl, if_pos (by simp), if_pos (by simp), if_pos (by simp), show rd [x, y, z] 0 = x from rfl, show rd [x, y, z] 1 = y from rfl, show rd [x, y, z] 2 = z from rfl, wrap_id (x := x + y) (by omega) (by omega), wrap_id (x := x + y + z) (by omega) (by omega)]) ?_
      exact Ev.now _
  · rw [decide_eq_false h3, Bool.false_and]
    exact Ev.congr (fun k => by unfold spec_fxGiven.f; rw [if_neg h3]) (Ev.now _)
theorem implMixed (ws : List Int) : Ev (fun k => impl_areMixed.f k ws) (mixedP ws) := by
  unfold mixedP
  by_cases h3 : (ws.length : Int) = 3
  · rw [decide_eq_true h3, Bool.true_and]
    cases e : ws.all (inB 0 1000000) with
    | false => exact Ev.congr (fun k => by unfold impl_areMixed.f; rw [if_pos h3, anyOut_is, e]; rfl) (Ev.now false)
    | true =>
      obtain ⟨x, y, z, rfl⟩ := three_of h3
      have e' := e
      simp only [List.all_cons, List.all_nil, Bool.and_true, Bool.and_eq_true, inB_iff] at e'
      have hs := evSum [x, y, z] (by
        intro v hv
        simp only [List.mem_cons, List.not_mem_nil, or_false] at hv
        rcases hv with rfl | rfl | rfl <;> omega) (by simp)
      refine Ev.congr (fun k => by unfold impl_areMixed.f; rw [if_pos h3, anyOut_is, e]; rfl) (Ev.bind hs ?_)
      simp only [List.getD_cons_zero, List.getD_cons_succ, Bool.true_and, List.sum_cons, List.sum_nil, Int.add_zero, ← Int.add_assoc]
      exact Ev.now _
  · rw [decide_eq_false h3, Bool.false_and]
    exact Ev.congr (fun k => by unfold impl_areMixed.f; rw [if_neg h3]) (Ev.now _)
theorem u1 : wrap64 (0 + 1) = 1 := by rw [wrap_id (by omega) (by omega)]; rfl
theorem u2 : wrap64 (1 + 1) = 2 := by rw [wrap_id (by omega) (by omega)]; rfl
theorem u3 : wrap64 (2 + 1) = 3 := by rw [wrap_id (by omega) (by omega)]; rfl
theorem l3 (a b c : Int) : ((([a, b, c] : List Int).length : Int)) = 3 := rfl
theorem three_row {l : List Int} (h : l.length = 3) : ∃ x y z, l = [x, y, z] := three_of (by omega)

theorem imageOfWeights_same (n : Int) (ls : List (List Int)) (c : Int) (ws : List Int) (hs : Small ls) (hl : ws.length ≤ 1048576) : ∃ r t, r.length ≤ 1048576 ∧ ∃ K, ∀ k, K ≤ k → spec_ImageOfWeights.f k n ls c ws = some (r, t) ∧ impl_ImageOfWeights.f k n ls c ws = some (r, t) := by
  have no : ∀ (P Q : Nat → Option (List Int × Bool)), Ev P ([], false) → Ev Q ([], false) → ∃ r t, r.length ≤ 1048576 ∧ ∃ K, ∀ k, K ≤ k → P k = some (r, t) ∧ Q k = some (r, t) := fun P Q hp hq => ⟨[], false, by simp, both hp hq⟩
  have h1 := specAsked n ls hs c
  have h2 := implAsked n ls c
  have sj : Ev (fun k => spec_ImageOfWeights.j0 k n ls c ws true) ([], false) := Ev.step (fun k => rfl) (Ev.now _)
  have ij : Ev (fun k => impl_ImageOfWeights.j0 k n ls c ws true) ([], false) := Ev.step (fun k => rfl) (Ev.now _)
  cases e : (goodP n ls && inB 0 (topCell n) c) with
  | false =>
    rw [e] at h1 h2
    exact no _ _ (Ev.congr (fun k => by unfold spec_ImageOfWeights.f; rfl) (Ev.bind h1 sj)) (Ev.congr (fun k => by unfold impl_ImageOfWeights.f; rfl) (Ev.bind h2 ij))
  | true =>
    rw [e] at h1 h2
    have sg := specGiven ws hl
    have ig := implMixed ws
    cases e3 : mixedP ws with
    | false =>
      rw [e3] at sg ig
      exact no _ _ (Ev.congr (fun k => by unfold spec_ImageOfWeights.f; rfl) (Ev.bind h1 (Ev.congr (fun k => by rw [if_pos rfl]) (Ev.bind sg sj)))) (Ev.congr (fun k => by unfold impl_ImageOfWeights.f; rfl) (Ev.bind h2 (Ev.congr (fun k => by rw [if_pos rfl]) (Ev.bind ig ij))))
    | true =>
      rw [e3] at sg ig
      obtain ⟨a, b, d, rfl⟩ : ∃ a b d, ws = [a, b, d] := by
        unfold mixedP at e3
        simp only [Bool.and_eq_true, decide_eq_true_eq] at e3
        exact three_of e3.1
      simp only [Bool.and_eq_true] at e
      obtain ⟨g1, g5, gl, gr⟩ := goodOf e.1
      obtain ⟨cs, c1, c2, c3, -, c5⟩ := cellsOf n g1 g5
      obtain ⟨b1, b2, b3, b4⟩ := cellAt c3 e.2 c5
      obtain ⟨u, v, w, hrow⟩ := three_row b3
      rw [hrow] at b4
      have hu := b4 u (by simp)
      have hv := b4 v (by simp)
      have hw := b4 w (by simp)
      have R : ∀ q : Int, 0 ≤ q → q < cnt n → q < (ls.length : Int) ∧ ∃ x y z, rd_L1 ls q = [x, y, z] := fun q h0 h1 => by
        obtain ⟨m, rfl⟩ : ∃ m : Nat, q = (m : Int) := ⟨q.toNat, by omega⟩
        have hm : m < ls.length := by omega
        rw [rdl_getElem hm]
        exact ⟨by omega, three_row (gr _ (List.getElem_mem hm)).1⟩
      obtain ⟨qu, x0, x1, x2, ex⟩ := R u hu.1 hu.2
      obtain ⟨qv, y0, y1, y2, ey⟩ := R v hv.1 hv.2
      obtain ⟨qw, z0, z1, z2, ez⟩ := R w hw.1 hw.2
      refine ⟨mixP a b d [x0, x1, x2] [y0, y1, y2] [z0, z1, z2], true, by rw [mixP_length]; omega, both ?_ ?_⟩
      · refine Ev.congr (fun k => by unfold spec_ImageOfWeights.f; rfl) (Ev.bind h1 (Ev.congr (fun k => by rw [if_pos rfl]) (Ev.bind sg (Ev.step (fun k => by simp only [spec_ImageOfWeights.j0, Bool.not_true, Bool.false_eq_true, if_false]; rfl) (Ev.bind c2 (Ev.congr (fun k => by rw [if_pos b1, if_pos b2, hrow]) ?_))))))
        refine Ev.step (fun k => by simp only [spec_ImageOfWeights.l0]; rw [l3, if_pos (by omega), if_pos (by omega), if_pos (by omega), show rd [u, v, w] 0 = u from rfl, if_pos hu.1, if_pos qu, if_pos (by simp), ex, u1]) ?_
        refine Ev.step (fun k => by simp only [spec_ImageOfWeights.l0]; rw [if_pos (by omega), if_pos (by omega), l3, if_pos (by omega), show rd [u, v, w] 1 = v from rfl, if_pos hv.1, if_pos qv, if_pos (by simp), ey, u2]) ?_
        refine Ev.step (fun k => by simp only [spec_ImageOfWeights.l0]; rw [if_pos (by omega), if_pos (by omega), l3, if_pos (by omega), show rd [u, v, w] 2 = w from rfl, if_pos hw.1, if_pos qw, if_pos (by simp), ez, u3]) ?_
        have hm : Ev (fun k => (spec_fxMix.f k [[x0, x1, x2], [y0, y1, y2], [z0, z1, z2]] [a, b, d]).bind fun t => some (t, true)) (mixP a b d [x0, x1, x2] [y0, y1, y2] [z0, z1, z2], true) := Ev.bind (step20 fun k => mixS a b d x0 x1 x2 y0 y1 y2 z0 z1 z2 k) (Ev.now _)
        exact Ev.step (fun k => by simp only [spec_ImageOfWeights.l0]; rw [if_neg (by omega)]; rfl) hm
      · have hm : Ev (fun k => (impl_mix.f k [a, b, d] [[x0, x1, x2], [y0, y1, y2], [z0, z1, z2]]).bind fun t => some (t, true)) (mixP a b d [x0, x1, x2] [y0, y1, y2] [z0, z1, z2], true) := Ev.bind (step20 fun k => mixI a b d x0 x1 x2 y0 y1 y2 z0 z1 z2 k) (Ev.now _)
        refine Ev.congr (fun k => by unfold impl_ImageOfWeights.f; rfl) (Ev.bind h2 (Ev.congr (fun k => by rw [if_pos rfl]) (Ev.bind ig (Ev.step (fun k => by simp only [impl_ImageOfWeights.j0, Bool.not_true, Bool.false_eq_true, if_false]; rfl) (Ev.bind c1 (Ev.congr (fun k => by
          rw [if_pos b1, if_pos b2, hrow, l3, if_pos (by omega), show rd [u, v, w] 0 = u from rfl, if_pos hu.1, if_pos qu, if_pos (by omega), show rd [u, v, w] 1 = v from rfl, if_pos hv.1, if_pos qv, if_pos (by omega), show rd [u, v, w] 2 = w from rfl, if_pos hw.1, if_pos qw, ex, ey, ez]) hm))))))
end Go.Proofs.Ytmodnjljgcmdlaa.Maps

