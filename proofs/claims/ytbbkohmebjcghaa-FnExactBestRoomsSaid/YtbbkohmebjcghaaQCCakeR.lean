/- The best rooms: the reference and the program come to the same. -/
import Derived.Test.YtbbkohmebjcghaaQCx0
import Derived.Test.YtbbkohmebjcghaaQCx1
import Derived.Test.YtbbkohmebjcghaaQCx4
import Derived.Test.YtbbkohmebjcghaaQCx6
import Derived.Test.YtbbkohmebjcghaaQCCakeAs0
import Derived.Test.YtbbkohmebjcghaaQCCakeAs4
import Derived.Test.YtbbkohmebjcghaaQCCakeBs1
import Derived.Test.YtbbkohmebjcghaaQCCakeCs4
import Derived.Test.YtbbkohmebjcghaaQCCakeH
import Derived.Test.YtbbkohmebjcghaaQCEqs
import Derived.Test.YtbbkohmebjcghaaQCEqsR
namespace Go.Proofs.Ytbbkohmebjcghaa.Cake
open Go.RowKit Go.Proofs.Ytbbkohmebjcghaa.All Go.Proofs.Ytbbkohmebjcghaa.Eqs Go.Proofs.YtbbkohmebjcghaaW.PrintWords Go.Proofs.YtbbkohmebjcghaaW.PrintLast Go.Proofs.YtbbkohmebjcghaaW.PrintMore
theorem ords_in : ∀ j : Fin 6, 0 ≤ rd (rd_L1 ords (j.val : Int)) 0 ∧ rd (rd_L1 ords (j.val : Int)) 0 < 3 ∧ 0 ≤ rd (rd_L1 ords (j.val : Int)) 1 ∧ rd (rd_L1 ords (j.val : Int)) 1 < 3 ∧ 0 ≤ rd (rd_L1 ords (j.val : Int)) 2 ∧ rd (rd_L1 ords (j.val : Int)) 2 < 3 := by decide
theorem in20 (l : List Int) (hl : l.length = 3) (h : ∀ v ∈ l, 0 ≤ v ∧ v ≤ 20) (i : Int) (h0 : 0 ≤ i) (h3 : i < 3) : 0 ≤ rd l i ∧ rd l i ≤ 20 := by
  obtain ⟨m, rfl⟩ : ∃ m : Nat, i = (m : Int) := ⟨i.toNat, by omega⟩
  rw [rd_get l m (by omega)]
  exact h _ (List.getElem_mem _)
theorem best_l0 (x y z : List Int) (hx3 : x.length = 3) (hy3 : y.length = 3) (hz3 : z.length = 3) (hx : ∀ v ∈ x, 0 ≤ v ∧ v ≤ 20) (_ : ∀ v ∈ y, 0 ≤ v ∧ v ≤ 20) (_ : ∀ v ∈ z, 0 ≤ v ∧ v ≤ 20) (d : Nat) : ∀ (j : Nat) (most : Int) (best : List Int), j + d = 6 → best.length ≤ 3 → ∃ b : List Int, b.length ≤ 3 ∧ Ev (fun k => spec_BestRooms.l0 k [x, y, z] best most ords 6 j) (b, true) ∧ Ev (fun k => impl_BestRooms.l0 k [x, y, z] most best ords 6 j) (b, true) := by
  have hlen : (ords.length : Int) = 6 := rfl
  induction d with
  | zero =>
    intro j most best hj hb
    exact ⟨best, hb, Ev.step (fun k => by simp only [spec_BestRooms.l0]; rw [if_neg (by omega)]) (Ev.now _), Ev.step (fun k => by simp only [impl_BestRooms.l0]; rw [if_neg (by omega)]) (Ev.now _)⟩
  | succ d ih =>
    intro j most best hj hb
    obtain ⟨i0, i1, i2, i3, i4, i5⟩ := ords_in ⟨j, by omega⟩
    have o2 := (ords_at j (by omega)).2
    simp only at i0 i1 i2 i3 i4 i5
    have st : ∀ (R : List Int × Bool) (s : Int), Ev (fun k => spec_ckSum.f k [x, y, z] (rd_L1 ords (j : Int))) s → Ev (fun k => if s > most then spec_BestRooms.l0 k [x, y, z] (rd_L1 ords (j : Int)) s ords 6 (wrap64 ((j : Int) + 1)) else spec_BestRooms.l0 k [x, y, z] best most ords 6 (wrap64 ((j : Int) + 1))) R → Ev (fun k => spec_BestRooms.l0 k [x, y, z] best most ords 6 j) R := fun R s hs hR => Ev.step (fun k => by simp only [spec_BestRooms.l0]; rw [if_pos (by omega), if_pos (by omega), if_pos (by omega)]) (Ev.bind hs hR)
    have si : ∀ k, impl_BestRooms.l0 (k + 1) [x, y, z] most best ords 6 j = if wrap64 (wrap64 (rd x (rd (rd_L1 ords (j : Int)) 0) + rd y (rd (rd_L1 ords (j : Int)) 1)) + rd z (rd (rd_L1 ords (j : Int)) 2)) > most then impl_BestRooms.l0 k [x, y, z] (wrap64 (wrap64 (rd x (rd (rd_L1 ords (j : Int)) 0) + rd y (rd (rd_L1 ords (j : Int)) 1)) + rd z (rd (rd_L1 ords (j : Int)) 2))) (rd_L1 ords (j : Int)) ords 6 (wrap64 ((j : Int) + 1)) else impl_BestRooms.l0 k [x, y, z] most best ords 6 (wrap64 ((j : Int) + 1)) := fun k => by
      simp only [impl_BestRooms.l0]
      rw [show rd_L1 [x, y, z] 0 = x from rfl, show rd_L1 [x, y, z] 1 = y from rfl, show rd_L1 [x, y, z] 2 = z from rfl, show (([x, y, z] : List (List Int)).length : Int) = 3 from rfl, if_pos (by omega), if_pos (by omega), if_pos (by omega), if_pos (by omega), if_pos (by omega), if_pos (by omega), if_pos (by omega), if_pos (by omega), if_pos (by omega), if_pos (by omega), if_pos (by omega), if_pos (by omega), if_pos (by omega), if_pos (by omega), if_pos (by omega)]
    have hs : Ev (fun k => spec_ckSum.f k [x, y, z] (rd_L1 ords (j : Int))) (wrap64 (wrap64 (rd x (rd (rd_L1 ords (j : Int)) 0) + rd y (rd (rd_L1 ords (j : Int)) 1)) + rd z (rd (rd_L1 ords (j : Int)) 2))) := by
      have q1 := in20 x hx3 hx _ i0 i1
      refine Ev.congr (fun k => by unfold spec_ckSum.f; rw [show (([x, y, z] : List (List Int)).length : Int) = 3 from rfl]) ?_
      refine Ev.step (fun k => by simp only [spec_ckSum.l0]; rw [show (([x, y, z] : List (List Int)).length : Int) = 3 from rfl, if_pos (by omega), if_pos (by omega), if_pos (by omega), if_pos (by omega), show rd_L1 [x, y, z] 0 = x from rfl, if_pos (by omega), if_pos (by omega), Int.zero_add, wrap_id (x := rd x (rd (rd_L1 ords (j : Int)) 0)) (by omega) (by omega), show wrap64 (0 + 1) = 1 by decide +kernel]) ?_
      refine Ev.step (fun k => by simp only [spec_ckSum.l0]; rw [show (([x, y, z] : List (List Int)).length : Int) = 3 from rfl, if_pos (by omega), if_pos (by omega), if_pos (by omega), if_pos (by omega), show rd_L1 [x, y, z] 1 = y from rfl, if_pos (by omega), if_pos (by omega), show wrap64 (1 + 1) = 2 by decide +kernel]) ?_
      refine Ev.step (fun k => by simp only [spec_ckSum.l0]; rw [show (([x, y, z] : List (List Int)).length : Int) = 3 from rfl, if_pos (by omega), if_pos (by omega), if_pos (by omega), if_pos (by omega), show rd_L1 [x, y, z] 2 = z from rfl, if_pos (by omega), if_pos (by omega), show wrap64 (2 + 1) = 3 by decide +kernel]) ?_
      exact Ev.step (fun k => by simp only [spec_ckSum.l0]; rw [if_neg (by omega)]) (Ev.now _)
    by_cases hm : wrap64 (wrap64 (rd x (rd (rd_L1 ords (j : Int)) 0) + rd y (rd (rd_L1 ords (j : Int)) 1)) + rd z (rd (rd_L1 ords (j : Int)) 2)) > most
    · obtain ⟨b, b1, g1, g2⟩ := ih (j + 1) _ (rd_L1 ords (j : Int)) (by omega) (by omega)
      exact ⟨b, b1, st _ _ hs (Ev.congr (fun k => by rw [if_pos hm, upC (by omega)]) g1), Ev.step (fun k => by rw [si k, if_pos hm, upC (by omega)]) g2⟩
    · obtain ⟨b, b1, g1, g2⟩ := ih (j + 1) most best (by omega) hb
      exact ⟨b, b1, st _ _ hs (Ev.congr (fun k => by rw [if_neg hm, upC (by omega)]) g1), Ev.step (fun k => by rw [si k, if_neg hm, upC (by omega)]) g2⟩
theorem bestRooms_same (ls : List (List Int)) (hs : Small ls) : ∃ b t, b.length ≤ 1048576 ∧ ∃ K, ∀ k, K ≤ k → spec_BestRooms.f k ls = some (b, t) ∧ impl_BestRooms.f k ls = some (b, t) := by
  have h1 : Ev (fun k => spec_ckRooms.f k ls) (three 3 20 ls) := ⟨2097161, fun k hk => spec_rooms ls hs k (by omega)⟩
  cases ht : three 3 20 ls with
  | false =>
    rw [ht] at h1
    refine ⟨[], false, by simp, bothC (Ev.congr (fun k => by unfold spec_BestRooms.f; rfl) (Ev.bind h1 ?_)) (Ev.congr (fun k => by unfold impl_BestRooms.f; rw [impl_rooms, ht]; rfl) (Ev.now _))⟩
    exact Ev.now _
  | true =>
    rw [ht] at h1
    obtain ⟨h3, hr⟩ := rooms_of ht
    match ls, h3, hr, ht, h1 with
    | [x, y, z], _, hr, ht, h1 =>
      obtain ⟨b, b1, g1, g2⟩ := best_l0 x y z (hr x (by simp)).1 (hr y (by simp)).1 (hr z (by simp)).1 (hr x (by simp)).2 (hr y (by simp)).2 (hr z (by simp)).2 6 0 (-1) [] (by omega) (by simp)
      exact ⟨b, true, by omega, bothC (Ev.congr (fun k => by unfold spec_BestRooms.f; rfl) (Ev.bind h1 (Ev.congr (fun k => by rw [if_pos rfl, show spec_ckAll.f = some ords from rfl, Option.bind_some, show (ords.length : Int) = 6 from rfl]; rfl) g1))) (Ev.congr (fun k => by unfold impl_BestRooms.f; rw [impl_rooms, ht, Option.bind_some, if_pos rfl, show impl_orders.f = some ords from rfl, Option.bind_some, show (ords.length : Int) = 6 from rfl]; rfl) g2)⟩
end Go.Proofs.Ytbbkohmebjcghaa.Cake

