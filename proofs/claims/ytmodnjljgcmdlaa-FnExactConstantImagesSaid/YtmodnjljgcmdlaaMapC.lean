/- Constant images: the reference and the program come to the same rows. -/
import Derived.Test.YtmodnjljgcmdlaaAllx14
import Derived.Test.YtmodnjljgcmdlaaAllx15
import Derived.Test.YtmodnjljgcmdlaaMapA
namespace Go.Proofs.Ytmodnjljgcmdlaa.Maps
open Go.RowKit Go.Proofs.Ytmodnjljgcmdlaa.All Go.Proofs.Ytmodnjljgcmdlaa.Eqs Go.Proofs.Ytmodnjljgcmdlaa.L1 Go.Proofs.YtmodnjljgcmdlaaW.PrintWords Go.Proofs.YtmodnjljgcmdlaaW.PrintLast
theorem cntNat (n : Int) (h1 : 1 ≤ n) (h5 : n ≤ 5) : ∃ m : Nat, m ≤ 45 ∧ cnt n = (m : Int) := by
  have hc : ∀ i : Fin 5, 0 ≤ cnt ((i.val : Int) + 1) ∧ cnt ((i.val : Int) + 1) ≤ 45 := by decide +kernel
  have h := hc ⟨(n - 1).toNat, by omega⟩
  rw [show (((⟨(n - 1).toNat, by omega⟩ : Fin 5).val : Int) + 1) = n by simp only; omega] at h
  exact ⟨(cnt n).toNat, by omega, by omega⟩
theorem const_l0 (n : Int) (l : List Int) (m : Nat) (hm : cnt n = (m : Int)) (h45 : m ≤ 45) (hl : l.length ≤ 3) (d : Nat) : ∀ (i : Nat) (out : List (List Int)), i + d = m → out.length ≤ i → Ev (fun k => spec_ConstantImages.l0 k n l out (i : Int)) (out ++ List.replicate d l, true) ∧ Ev (fun k => impl_ConstantImages.l0 k l out (m : Int) (i : Int)) (out ++ List.replicate d l, true) := by
  induction d with
  | zero =>
    intro i out hi ho
    rw [List.replicate_zero, List.append_nil]
    refine ⟨Ev.step (fun k => by simp only [spec_ConstantImages.l0]; rw [show spec_meCount.f n = some (cnt n) from rfl, Option.bind_some, hm, if_neg (by omega)]) (Ev.now _), Ev.step (fun k => by simp only [impl_ConstantImages.l0]; rw [if_neg (by omega)]) (Ev.now _)⟩
  | succ d ih =>
    intro i out hi ho
    obtain ⟨g1, g2⟩ := ih (i + 1) (out ++ [l]) (by omega) (by simp; omega)
    rw [show out ++ [l] ++ List.replicate d l = out ++ List.replicate (d + 1) l by rw [List.append_assoc]; rfl] at g1 g2
    refine ⟨Ev.step (fun k => by
      simp only [spec_ConstantImages.l0]
      rw [show spec_meCount.f n = some (cnt n) from rfl, Option.bind_some, hm, if_pos (by omega), show spec_l1Own.f l = some l by (unfold spec_l1Own.f; rw [Option.bind_some, if_pos (by simp; omega)]; rfl), Option.bind_some, if_pos (by omega), upI (by omega)]) g1, Ev.step (fun k => by
      simp only [impl_ConstantImages.l0]
      rw [if_pos (by omega), show slices_Clone_int_int.f l = some l by (unfold slices_Clone_int_int.f; rw [if_pos (by omega)]), Option.bind_some, if_pos (by omega), upI (by omega)]) g2⟩
theorem constImages_same (n : Int) (l : List Int) (hl : l.length ≤ 1048576) : ∃ r t, Small r ∧ ∃ K, ∀ k, K ≤ k → spec_ConstantImages.f k n l = some (r, t) ∧ impl_ConstantImages.f k n l = some (r, t) := by
  cases e : inB 1 5 n with
  | false =>
    refine ⟨[], false, ⟨by simp, by simp⟩, both ?_ ?_⟩
    · refine Ev.congr (fun k => by unfold spec_ConstantImages.f spec_fxSide.f; rw [l1In_is, Option.bind_some, Option.bind_some, e, if_neg (by decide)]) (Ev.step (fun k => by simp only [spec_ConstantImages.j0]; rw [if_pos trivial]) (Ev.now _))
    · refine Ev.congr (fun k => by unfold impl_ConstantImages.f; rw [in_is, Option.bind_some, e, if_neg (by decide)]) (Ev.step (fun k => by simp only [impl_ConstantImages.j0]; rw [if_pos trivial]) (Ev.now _))
  | true =>
    have hb := (inB_iff _ _ _).mp e
    have h1 := specImage n hb.1 hb.2 l hl
    have h2 := implImage n hb.1 hb.2 l
    have s1 : ∀ k, spec_ConstantImages.f k n l = (spec_fxPoint.f k n l).bind fun t => spec_ConstantImages.j0 k n l (!t) := fun k => by unfold spec_ConstantImages.f spec_fxSide.f; rw [l1In_is, Option.bind_some, Option.bind_some, e, if_pos rfl]
    have s2 : ∀ k, impl_ConstantImages.f k n l = (impl_isImage.f k l (wrap64 (3 * n))).bind fun t => impl_ConstantImages.j0 k n l (!t) := fun k => by unfold impl_ConstantImages.f; rw [in_is, Option.bind_some, e, if_pos rfl]
    cases ei : imageP n l with
    | false =>
      rw [ei] at h1 h2
      exact ⟨[], false, ⟨by simp, by simp⟩, both (Ev.congr s1 (Ev.bind h1 (Ev.step (fun k => by simp only [spec_ConstantImages.j0]; rw [if_pos (by rfl)]) (Ev.now _)))) (Ev.congr s2 (Ev.bind h2 (Ev.step (fun k => by simp only [impl_ConstantImages.j0]; rw [if_pos (by rfl)]) (Ev.now _))))⟩
    | true =>
      rw [ei] at h1 h2
      have hl3 : l.length = 3 := by
        unfold imageP at ei
        simp only [Bool.and_eq_true, decide_eq_true_eq] at ei
        omega
      obtain ⟨m, hm45, hm⟩ := cntNat n hb.1 hb.2
      obtain ⟨g1, g2⟩ := const_l0 n l m hm hm45 (by omega) m 0 [] (by omega) (by simp)
      rw [List.nil_append] at g1 g2
      refine ⟨List.replicate m l, true, ⟨by simp; omega, fun x hx => by rw [(List.mem_replicate.1 hx).2]; omega⟩, both (Ev.congr s1 (Ev.bind h1 (Ev.step (fun k => by simp only [spec_ConstantImages.j0]; rw [if_neg (by decide)]; rfl) g1))) (Ev.congr s2 (Ev.bind h2 (Ev.step (fun k => by simp only [impl_ConstantImages.j0]; rw [if_neg (by decide), show impl_many.f n = some (cnt n) from rfl, Option.bind_some, hm]; rfl) g2)))⟩
end Go.Proofs.Ytmodnjljgcmdlaa.Maps
