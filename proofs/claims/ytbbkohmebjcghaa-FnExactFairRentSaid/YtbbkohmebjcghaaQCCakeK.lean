/- Fair rent: the reference and the program come to the same. -/
import Derived.Test.YtbbkohmebjcghaaQCx0
import Derived.Test.YtbbkohmebjcghaaQCx2
import Derived.Test.YtbbkohmebjcghaaQCx7
import Derived.Test.YtbbkohmebjcghaaQCx1
import Derived.Test.YtbbkohmebjcghaaQCx4
import Derived.Test.YtbbkohmebjcghaaQCCakeAs0
import Derived.Test.YtbbkohmebjcghaaQCCakeAs2
import Derived.Test.YtbbkohmebjcghaaQCCakeAs4
import Derived.Test.YtbbkohmebjcghaaQCCakeCs4
import Derived.Test.YtbbkohmebjcghaaQCCakeCs7
import Derived.Test.YtbbkohmebjcghaaQCCakeD
import Derived.Test.YtbbkohmebjcghaaQCCakeH
import Derived.Test.YtbbkohmebjcghaaQCEqsR
import Derived.Test.YtbbkohmebjcghaaQCEqs
namespace Go.Proofs.Ytbbkohmebjcghaa.Cake
open Go.RowKit Go.Proofs.Ytbbkohmebjcghaa.All Go.Proofs.Ytbbkohmebjcghaa.Eqs Go.Proofs.YtbbkohmebjcghaaW.PrintWords Go.Proofs.YtbbkohmebjcghaaW.PrintLast Go.Proofs.YtbbkohmebjcghaaW.PrintMore
theorem rent_l1 (n : Int) (ls : List (List Int)) (ps : List S54) (i : Nat) (ws : List (List Int)) (hw : Three ws) (hS : Ev (fun k => spec_ckCosts.f k n ls i) ws) (hi : i < 1000) (d : Nat) : ∀ (j : Nat) (at_ least : Int) (best : List Int), j + d = 6 → best.length ≤ 3 → ∃ (at' least' : Int) (best' : List Int), best'.length ≤ 3 ∧ (∀ R, Ev (fun k => spec_FairRent.l0 k n ls at' least' best' ((i + 1 : Nat) : Int)) R → Ev (fun k => spec_FairRent.l1 k n ls at_ least best i ords 6 j) R) ∧ (∀ R, Ev (fun k => impl_fairestN.l0 k ls least' at' best' ps (ps.length : Int) ((i + 1 : Nat) : Int)) R → Ev (fun k => impl_fairestN.l1 k ls least at_ best i ws ps (ps.length : Int) i ords 6 j) R) := by
  have hlen : (ords.length : Int) = 6 := rfl
  induction d with
  | zero =>
    intro j at_ least best hj hb
    exact ⟨at_, least, best, hb, fun R hR => Ev.step (fun k => by simp only [spec_FairRent.l1]; rw [if_neg (by omega), upC (by omega)]) hR, fun R hR => Ev.step (fun k => by simp only [impl_fairestN.l1]; rw [if_neg (by omega), upC (by omega)]) hR⟩
  | succ d ih =>
    intro j at_ least best hj hb
    obtain ⟨o1, o2⟩ := ords_at j (by omega)
    obtain ⟨r, hr⟩ := envy_is ws _ hw o1
    have eS : Ev (fun k => spec_ckEnvy.f k ws (rd_L1 ords (j : Int))) r := ⟨20, fun k hk => (hr k hk).1⟩
    have eI : Ev (fun k => impl_envyOf.f k ws (rd_L1 ords (j : Int))) r := ⟨20, fun k hk => (hr k hk).2⟩
    have sS : ∀ k, spec_FairRent.l1 (k + 1) n ls at_ least best i ords 6 j = (spec_ckCosts.f k n ls i).bind fun t => (spec_ckEnvy.f k t (rd_L1 ords (j : Int))).bind fun e => if least < 0 then spec_FairRent.l1 k n ls i e (rd_L1 ords (j : Int)) i ords 6 (wrap64 ((j : Int) + 1)) else if e < least then spec_FairRent.l1 k n ls i e (rd_L1 ords (j : Int)) i ords 6 (wrap64 ((j : Int) + 1)) else spec_FairRent.l1 k n ls at_ least best i ords 6 (wrap64 ((j : Int) + 1)) := fun k => by
      simp only [spec_FairRent.l1]
      rw [if_pos (by omega), if_pos (by omega), if_pos (by omega)]
    have sI : ∀ k, impl_fairestN.l1 (k + 1) ls least at_ best i ws ps (ps.length : Int) i ords 6 j = (impl_envyOf.f k ws (rd_L1 ords (j : Int))).bind fun e => if least < 0 then impl_fairestN.l1 k ls e i (rd_L1 ords (j : Int)) i ws ps (ps.length : Int) i ords 6 (wrap64 ((j : Int) + 1)) else if e < least then impl_fairestN.l1 k ls e i (rd_L1 ords (j : Int)) i ws ps (ps.length : Int) i ords 6 (wrap64 ((j : Int) + 1)) else impl_fairestN.l1 k ls least at_ best i ws ps (ps.length : Int) i ords 6 (wrap64 ((j : Int) + 1)) := fun k => by
      simp only [impl_fairestN.l1]
      rw [if_pos (by omega), if_pos (by omega), if_pos (by omega)]
    by_cases h1 : least < 0
    · obtain ⟨a', l', b', hb', g1, g2⟩ := ih (j + 1) i r (rd_L1 ords (j : Int)) (by omega) (by omega)
      exact ⟨a', l', b', hb', fun R hR => Ev.step sS (Ev.bind hS (Ev.bind eS (Ev.congr (fun k => by rw [if_pos h1, upC (by omega)]) (g1 R hR)))), fun R hR => Ev.step sI (Ev.bind eI (Ev.congr (fun k => by rw [if_pos h1, upC (by omega)]) (g2 R hR)))⟩
    · by_cases h2 : r < least
      · obtain ⟨a', l', b', hb', g1, g2⟩ := ih (j + 1) i r (rd_L1 ords (j : Int)) (by omega) (by omega)
        exact ⟨a', l', b', hb', fun R hR => Ev.step sS (Ev.bind hS (Ev.bind eS (Ev.congr (fun k => by rw [if_neg h1, if_pos h2, upC (by omega)]) (g1 R hR)))), fun R hR => Ev.step sI (Ev.bind eI (Ev.congr (fun k => by rw [if_neg h1, if_pos h2, upC (by omega)]) (g2 R hR)))⟩
      · obtain ⟨a', l', b', hb', g1, g2⟩ := ih (j + 1) at_ least best (by omega) hb
        exact ⟨a', l', b', hb', fun R hR => Ev.step sS (Ev.bind hS (Ev.bind eS (Ev.congr (fun k => by rw [if_neg h1, if_neg h2, upC (by omega)]) (g1 R hR)))), fun R hR => Ev.step sI (Ev.bind eI (Ev.congr (fun k => by rw [if_neg h1, if_neg h2, upC (by omega)]) (g2 R hR)))⟩
theorem rent_l0 (n : Int) (ls : List (List Int)) (ps : List S54) (hl : (ps.length : Int) = cnt n) (h45 : ps.length ≤ 45) (hp : ∀ i : Nat, i < ps.length → ∃ ws, Three ws ∧ Ev (fun k => spec_ckCosts.f k n ls i) ws ∧ Ev (fun k => impl_netAt.f k ls (rd_T54 ps i).f0 (rd_T54 ps i).f1 (rd_T54 ps i).f2) ws) (d : Nat) : ∀ (i : Nat) (at_ least : Int) (best : List Int), i + d = ps.length → best.length ≤ 3 → ∃ (a l : Int) (b : List Int), b.length ≤ 3 ∧ Ev (fun k => spec_FairRent.l0 k n ls at_ least best i) (a, b, true) ∧ Ev (fun k => impl_fairestN.l0 k ls least at_ best ps (ps.length : Int) i) (l, a, b) := by
  have hm : spec_meCount.f n = some (cnt n) := rfl
  induction d with
  | zero =>
    intro i at_ least best hi hb
    refine ⟨at_, least, best, hb, Ev.step (fun k => by simp only [spec_FairRent.l0]; rw [hm, Option.bind_some, if_neg (by omega)]) (Ev.now _), Ev.step (fun k => by simp only [impl_fairestN.l0]; rw [if_neg (by omega)]) (Ev.now _)⟩
  | succ d ih =>
    intro i at_ least best hi hb
    obtain ⟨ws, hw, hS, hI⟩ := hp i (by omega)
    obtain ⟨a1, l1, b1, hb1, g1, g2⟩ := rent_l1 n ls ps i ws hw hS (by omega) 6 0 at_ least best (by omega) hb
    obtain ⟨a, l, b, hb2, q1, q2⟩ := ih (i + 1) a1 l1 b1 (by omega) hb1
    refine ⟨a, l, b, hb2, Ev.step (fun k => by simp only [spec_FairRent.l0]; rw [hm, Option.bind_some, if_pos (by omega), show spec_ckAll.f = some ords from rfl, Option.bind_some, show (ords.length : Int) = 6 from rfl]; rfl) (g1 _ q1), Ev.step (fun k => by simp only [impl_fairestN.l0]; rw [if_pos (by omega), if_pos (by omega), if_pos (by omega)]) (Ev.bind hI (Ev.congr (fun k => by rw [show impl_orders.f = some ords from rfl, Option.bind_some, show (ords.length : Int) = 6 from rfl]; rfl) (g2 _ q2)))⟩
theorem fairRent_same (n : Int) (ls : List (List Int)) (hs : Small ls) : ∃ r b t, b.length ≤ 1048576 ∧ ∃ K, ∀ k, K ≤ k → spec_FairRent.f k n ls = some (r, b, t) ∧ impl_FairRent.f k n ls = some (r, b, t) := by
  have h1 : Ev (fun k => spec_ckRooms.f k ls) (three 3 20 ls) := ⟨2097161, fun k hk => spec_rooms ls hs k (by omega)⟩
  have m1 : spec_meSide.f n = some (inB 1 8 n) := by unfold spec_meSide.f; rw [l1In_is]; rfl
  have m2 : impl_isSide.f n = some (inB 1 8 n) := by unfold impl_isSide.f; rw [in_is]; rfl
  have no : ∀ b, b = true → Ev (fun k => spec_FairRent.j0 k n ls b) (0, [], false) := by rintro b rfl; exact Ev.step (fun k => by simp only [spec_FairRent.j0]; rw [if_pos trivial]) (Ev.now _)
  cases e : inB 1 8 n with
  | false => exact ⟨0, [], false, by simp, bothC (Ev.congr (fun k => by unfold spec_FairRent.f; rw [m1, e, Option.bind_some, if_neg (by decide)]) (no _ rfl)) (Ev.congr (fun k => by unfold impl_FairRent.f; rw [m2, e, Option.bind_some, if_neg (by decide)]) (Ev.now _))⟩
  | true =>
    cases ht : three 3 20 ls with
    | false =>
      rw [ht] at h1
      refine ⟨0, [], false, by simp, bothC (Ev.congr (fun k => by unfold spec_FairRent.f; rw [m1, e, Option.bind_some, if_pos rfl]) (Ev.bind h1 ?_)) (Ev.congr (fun k => by unfold impl_FairRent.f; rw [m2, e, Option.bind_some, if_pos rfl, impl_rooms, ht, Option.bind_some, if_neg (by decide)]) (Ev.now _))⟩
      exact no _ rfl
    | true =>
      rw [ht] at h1
      have hb := (show 1 ≤ n ∧ n ≤ 8 by unfold inB at e; simpa using e)
      have hg := rooms_of ht
      obtain ⟨ps, hps, hl, h45, hpt⟩ := pts n hb.1 hb.2
      obtain ⟨a, l, b, hb3, g1, g2⟩ := rent_l0 n ls ps hl h45 (fun i hi => by
        obtain ⟨e, p0, p1, p2, p3⟩ := hpt i hi
        refine ⟨ls.map (net3 (rd_T54 ps i).f0 (rd_T54 ps i).f1 (rd_T54 ps i).f2), three_map _ hg.1 (fun _ => rfl), ⟨301, fun k hk => ?_⟩, ⟨301, fun k hk => ?_⟩⟩
        · show spec_ckCosts.f k n ls (i : Int) = _
          unfold spec_ckCosts.f
          rw [e k (by omega), Option.bind_some]
          have := costs_l0 (rd_T54 ps i).f0 (rd_T54 ps i).f1 (rd_T54 ps i).f2 (by omega) (by omega) (by omega) ls hg ls.length k 0 [] (by omega) (by have := hg.1; omega) (by have := hg.1; simp; omega)
          simpa using this
        · show impl_netAt.f k ls _ _ _ = _
          unfold impl_netAt.f
          have := net_l0 (rd_T54 ps i).f0 (rd_T54 ps i).f1 (rd_T54 ps i).f2 (by omega) (by omega) (by omega) ls hg ls.length k 0 [] (by omega) (by have := hg.1; omega) (by have := hg.1; simp; omega)
          simpa using this) ps.length 0 0 (-1) [] (by omega) (by simp)
      have gF : Ev (fun k => impl_fairestN.f k n ls) (l, a, b) := Ev.congr (fun k => by unfold impl_fairestN.f; rfl) (Ev.bind ⟨100, hps⟩ g2)
      refine ⟨a, b, true, by omega, bothC (Ev.congr (fun k => by unfold spec_FairRent.f; rw [m1, e, Option.bind_some, if_pos rfl]) (Ev.bind h1 (Ev.step (fun k => by simp only [spec_FairRent.j0]; rw [if_neg (by decide)]; rfl) g1))) (Ev.congr (fun k => by unfold impl_FairRent.f; rw [m2, e, Option.bind_some, if_pos rfl, impl_rooms, ht, Option.bind_some, if_pos rfl]) (Ev.bind gF ?_))⟩
      exact Ev.now (a, b, true)
end Go.Proofs.Ytbbkohmebjcghaa.Cake

