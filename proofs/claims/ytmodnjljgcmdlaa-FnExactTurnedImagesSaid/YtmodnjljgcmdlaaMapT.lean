/- Turned images: the reference and the program come to the same rows. -/
import Derived.Test.YtmodnjljgcmdlaaAllx10
import Derived.Test.YtmodnjljgcmdlaaAllx12
import Derived.Test.YtmodnjljgcmdlaaMapA
namespace Go.Proofs.Ytmodnjljgcmdlaa.Maps
open Go.RowKit Go.Proofs.Ytmodnjljgcmdlaa.All Go.Proofs.Ytmodnjljgcmdlaa.Eqs Go.Proofs.Ytmodnjljgcmdlaa.L1 Go.Proofs.YtmodnjljgcmdlaaW.PrintWords Go.Proofs.YtmodnjljgcmdlaaW.PrintLast
def turnCheck (n : Int) : Bool := match impl_points.f 100 n with
  | some ps => decide ((ps.length : Int) = cnt n) && (decide (ps.length ≤ 45) && (List.range ps.length).all fun i =>
      let p := rd_T60 ps i
      (spec_meAt.f 20 n i == some [p.f0, p.f1, p.f2]) && (match spec_meIndex.f n [p.f1, p.f2, p.f0] with
        | some q => (slices_Index_3_int_3_int.f 100 ps p.f1 p.f2 p.f0 == some q) && (decide (0 ≤ q) && decide (q < (ps.length : Int)))
        | none => false))
  | none => false
theorem turnAll : ∀ i : Fin 5, turnCheck ((i.val : Int) + 1) = true := by decide +kernel
theorem turnPts (n : Int) (h1 : 1 ≤ n) (h5 : n ≤ 5) : ∃ ps : List S60, Ev (fun k => impl_points.f k n) ps ∧ (ps.length : Int) = cnt n ∧ ps.length ≤ 45 ∧ ∀ i : Nat, i < ps.length → ∃ q : Nat, q < ps.length ∧ Ev (fun k => spec_meAt.f k n i) [(rd_T60 ps i).f0, (rd_T60 ps i).f1, (rd_T60 ps i).f2] ∧ spec_meIndex.f n [(rd_T60 ps i).f1, (rd_T60 ps i).f2, (rd_T60 ps i).f0] = some (q : Int) ∧ Ev (fun k => slices_Index_3_int_3_int.f k ps (rd_T60 ps i).f1 (rd_T60 ps i).f2 (rd_T60 ps i).f0) (q : Int) := by
  have hc := turnAll ⟨(n - 1).toNat, by omega⟩
  rw [show (((⟨(n - 1).toNat, by omega⟩ : Fin 5).val : Int) + 1) = n by simp only; omega] at hc
  unfold turnCheck at hc
  split at hc
  · rename_i ps hps
    simp only [Bool.and_eq_true, decide_eq_true_eq, List.all_eq_true, List.mem_range, beq_iff_eq] at hc
    obtain ⟨h2, h3, h4⟩ := hc
    refine ⟨ps, Ev.of (impl_points.mono n) hps, h2, h3, fun i hi => ?_⟩
    obtain ⟨e, hq⟩ := h4 i hi
    split at hq
    · rename_i q hmq
      simp only [Bool.and_eq_true, decide_eq_true_eq, beq_iff_eq] at hq
      obtain ⟨ha, hb, hc⟩ := hq
      have hqn : ((q.toNat : Nat) : Int) = q := by omega
      refine ⟨q.toNat, by omega, Ev.of (spec_meAt.mono n i) e, ?_, ?_⟩
      · rw [hqn]; exact hmq
      · rw [hqn]; exact Ev.of (slices_Index_3_int_3_int.mono ps _ _ _) ha
    · exact absurd hq (by simp)
  · exact absurd hc (by simp)
theorem turn_l0 (n : Int) (ls : List (List Int)) (ps : List S60) (hlen : ls.length = ps.length) (h45 : ps.length ≤ 45) (hrows : ∀ r ∈ ls, r.length = 3)
    (hpt : ∀ i : Nat, i < ps.length → ∃ q : Nat, q < ps.length ∧ Ev (fun k => spec_meAt.f k n i) [(rd_T60 ps i).f0, (rd_T60 ps i).f1, (rd_T60 ps i).f2] ∧ spec_meIndex.f n [(rd_T60 ps i).f1, (rd_T60 ps i).f2, (rd_T60 ps i).f0] = some (q : Int) ∧ Ev (fun k => slices_Index_3_int_3_int.f k ps (rd_T60 ps i).f1 (rd_T60 ps i).f2 (rd_T60 ps i).f0) (q : Int))
    (d : Nat) : ∀ (i : Nat) (out : List (List Int)), i + d = ps.length → out.length ≤ i → (∀ x ∈ out, x.length ≤ 3) → ∃ r, Small r ∧ Ev (fun k => spec_TurnedImages.l0 k n ls out (ls.length : Int) i) (r, true) ∧ Ev (fun k => impl_TurnedImages.l0 k ls out ps ps (ps.length : Int) i) (r, true) := by
  induction d with
  | zero =>
    intro i out hi ho hx
    exact ⟨out, ⟨by omega, fun x h => by have := hx x h; omega⟩, Ev.step (fun k => by simp only [spec_TurnedImages.l0]; rw [if_neg (by omega)]) (Ev.now _), Ev.step (fun k => by simp only [impl_TurnedImages.l0]; rw [if_neg (by omega)]) (Ev.now _)⟩
  | succ d ih =>
    intro i out hi ho hx
    obtain ⟨q, hq, h1, h2, h3⟩ := hpt i (by omega)
    obtain ⟨p, hp⟩ : ∃ p, rd_T60 ps (i : Int) = p := ⟨_, rfl⟩
    rw [hp] at h1 h2 h3
    have hql : q < ls.length := by omega
    have h33 := hrows _ (List.getElem_mem hql)
    have hrow : rd_L1 ls (q : Int) = ls[q] := rdl_getElem hql
    obtain ⟨r, g1, g2, g3⟩ := ih (i + 1) (out ++ [[rd ls[q] 2, rd ls[q] 0, rd ls[q] 1]]) (by omega) (by simp; omega) (by
      intro x h
      rcases List.mem_append.1 h with h | h
      · exact hx x h
      · rw [List.mem_singleton.1 h]; simp)
    refine ⟨r, g1, Ev.step (fun k => by simp only [spec_TurnedImages.l0]; rw [if_pos (by omega)]) (Ev.bind h1 ?_), Ev.step (fun k => by simp only [impl_TurnedImages.l0]; rw [if_pos (by omega), if_pos (by omega), if_pos (by omega), hp]) (Ev.bind h3 ?_)⟩
    · refine Ev.congr (fun k => by
        rw [if_pos (by simp), if_pos (by simp), if_pos (by simp), show rd [p.f0, p.f1, p.f2] 1 = p.f1 from rfl, show rd [p.f0, p.f1, p.f2] 2 = p.f2 from rfl, show rd [p.f0, p.f1, p.f2] 0 = p.f0 from rfl, h2, Option.bind_some, if_pos (by omega), if_pos (by omega), hrow, if_pos (by omega), if_pos (by omega), if_pos (by omega), if_pos (by omega), upI (by omega)]) g2
    · exact Ev.congr (fun k => by
        rw [if_pos (by omega), if_pos (by omega), hrow, if_pos (by omega), if_pos (by omega), if_pos (by omega), if_pos (by omega), upI (by omega)]) g3
theorem goodOf {n : Int} {ls : List (List Int)} (h : goodP n ls = true) : 1 ≤ n ∧ n ≤ 5 ∧ (ls.length : Int) = cnt n ∧ ∀ r ∈ ls, r.length = 3 ∧ ∀ v ∈ r, 0 ≤ v ∧ v ≤ 3 * n := by
  unfold goodP at h
  simp only [Bool.and_eq_true, inB_iff, decide_eq_true_eq, List.all_eq_true] at h
  obtain ⟨h1, h2, h3⟩ := h
  refine ⟨h1.1, h1.2, h2, fun r hr => ?_⟩
  have := h3 r hr
  unfold imageP at this
  simp only [Bool.and_eq_true, inB_iff, decide_eq_true_eq, List.all_eq_true] at this
  exact ⟨by omega, this.2.1⟩
theorem turnedImages_same (n : Int) (ls : List (List Int)) (hs : Small ls) : ∃ r t, Small r ∧ ∃ K, ∀ k, K ≤ k → spec_TurnedImages.f k n ls = some (r, t) ∧ impl_TurnedImages.f k n ls = some (r, t) := by
  have h1 := specGood n ls hs
  have h2 := implGood n ls
  cases e : goodP n ls with
  | false =>
    rw [e] at h1 h2
    exact ⟨[], false, ⟨by simp, by simp⟩, both (Ev.bind h1 (Ev.now _)) (Ev.bind h2 (Ev.now _))⟩
  | true =>
    rw [e] at h1 h2
    obtain ⟨g1, g5, gl, gr⟩ := goodOf e
    obtain ⟨ps, hp, hl, h45, hpt⟩ := turnPts n g1 g5
    obtain ⟨r, r1, r2, r3⟩ := turn_l0 n ls ps (by omega) h45 (fun x hx => (gr x hx).1) hpt ps.length 0 [] (by omega) (by simp) (by simp)
    exact ⟨r, true, r1, both (Ev.bind h1 (Ev.congr (fun k => by rw [if_pos rfl]; rfl) r2)) (Ev.bind h2 (Ev.congr (fun k => by rw [if_pos rfl]) (Ev.bind hp r3)))⟩
end Go.Proofs.Ytmodnjljgcmdlaa.Maps
