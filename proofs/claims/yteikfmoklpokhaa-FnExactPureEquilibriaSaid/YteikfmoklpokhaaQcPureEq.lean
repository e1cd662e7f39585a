/- Pure equilibria: the reference and the program come to the same pairs. -/
import Derived.Test.YteikfmoklpokhaaQcx0
import Derived.Test.YteikfmoklpokhaaQcx5
import Derived.Test.YteikfmoklpokhaaQcx7
import Derived.Test.YteikfmoklpokhaaQcx8
import Derived.Test.YteikfmoklpokhaaQcx9
import Derived.Test.YteikfmoklpokhaaQcEqsR
import Derived.Test.YteikfmoklpokhaaQcEquil
import Derived.Test.YteikfmoklpokhaaQcGame
import Derived.Test.YteikfmoklpokhaaQcReplies
namespace Go.Proofs.Yteikfmoklpokhaa.Games
open Go.RowKit Go.Proofs.Yteikfmoklpokhaa.All Go.Proofs.Yteikfmoklpokhaa.Eqs Go.Proofs.Yteikfmoklpokhaa.L1 Go.Proofs.Yteikfmoklpokhaa.Weights Go.Proofs.YteikfmoklpokhaaW.PrintWords Go.Proofs.YteikfmoklpokhaaW.PrintLast
def sureP (n i : Nat) : List Int := (List.replicate n (0 : Int)).set i 1
theorem sureP_length (n i : Nat) : (sureP n i).length = n := by simp [sureP]
theorem sureP_bd (n i : Nat) : ∀ v ∈ sureP n i, v.natAbs ≤ 1000000 := by
  intro v hv
  rcases List.mem_or_eq_of_mem_set hv with h | h
  · have := (List.mem_replicate.1 h).2
    subst this; simp
  · subst h; simp
theorem specPure (n i : Nat) (hi : i < n) (hn : n ≤ 1000) : spec_gmPure.f (n : Int) (i : Int) = some (sureP n i) := by
  unfold spec_gmPure.f sureP
  rw [if_pos (by omega), if_pos (by omega)]
  simp only [Option.bind_some, Int.toNat_natCast, List.length_replicate]
  rw [if_pos (by omega), if_pos (by omega)]
theorem implSure (n i : Nat) (hi : i < n) (hn : n ≤ 1000) : impl_sure.f (i : Int) (n : Int) = some (sureP n i) := by
  unfold impl_sure.f sureP
  rw [if_pos (by omega), if_pos (by omega)]
  simp only [Option.bind_some, Int.toNat_natCast, List.length_replicate]
  rw [if_pos (by omega), if_pos (by omega)]
theorem within_zeros (reps : List Int) : ∀ (n s : Nat), withinP reps (List.replicate n 0) s = true
  | 0, _ => rfl
  | n + 1, s => by
    rw [List.replicate_succ]
    simp only [withinP]
    rw [if_neg (by omega)]
    exact within_zeros reps n (s + 1)
theorem within_sure (reps : List Int) : ∀ (n i s : Nat), i < n → withinP reps ((List.replicate n (0 : Int)).set i 1) s = decide (((s + i : Nat) : Int) ∈ reps)
  | 0, _, _, h => absurd h (Nat.not_lt_zero _)
  | n + 1, 0, s, _ => by
    rw [List.replicate_succ, List.set_cons_zero]
    simp only [withinP]
    rw [if_pos (by omega), within_zeros, Nat.add_zero]
    cases decide ((s : Int) ∈ reps) <;> rfl
  | n + 1, i + 1, s, h => by
    rw [List.replicate_succ, List.set_cons_succ]
    simp only [withinP]
    rw [if_neg (by omega), within_sure reps n i (s + 1) (by omega), show s + 1 + i = s + (i + 1) by omega]
/-- What is gathered: few pairs. -/
def Few (out : List (List Int)) (q : Nat) : Prop := out.length ≤ q ∧ ∀ x ∈ out, x.length ≤ 2
theorem few_snoc {out : List (List Int)} {q : Nat} (h : Few out q) (i j : Int) : Few (out ++ [[i, j]]) (q + 1) := by
  refine ⟨by have := h.1; simp; omega, fun x hx => ?_⟩
  rcases List.mem_append.1 hx with hx | hx
  · exact h.2 x hx
  · rw [List.mem_singleton.1 hx]; simp
section
variable {a b : List (List Int)} {m n : Nat}
theorem pure_l1 (g : IsG a b m n) (i : Nat) (hi : i < m) (hnext : ∀ out, Few out (3 * (i + 1)) → ∃ r, Few r 9 ∧ Ev (fun k => spec_PureEquilibria.l0 k out (m : Int) ((i + 1 : Nat) : Int) a b) (r, true) ∧ Ev (fun k => impl_PureEquilibria.l0 k out (m : Int) ((i + 1 : Nat) : Int) a b) (r, true)) (d : Nat) :
    ∀ (j : Nat) (out : List (List Int)), j + d = n → Few out (3 * i + j) → ∃ r, Few r 9 ∧ Ev (fun k => spec_PureEquilibria.l1 k out (i : Int) (m : Int) (i : Int) (n : Int) (j : Int) a b) (r, true) ∧ Ev (fun k => impl_PureEquilibria.l1 k out (i : Int) (m : Int) (i : Int) (n : Int) (j : Int) a b) (r, true) := by
  have hm := g.m3; have hn := g.n3; have hm1 := g.m1; have hl := g.one.len; have hhd := g.head
  have up : wrap64 ((i : Int) + 1) = ((i + 1 : Nat) : Int) := upI (by omega)
  induction d with
  | zero =>
    intro j out hj ho
    obtain ⟨r, h1, h2, h3⟩ := hnext out ⟨by have := ho.1; omega, ho.2⟩
    exact ⟨r, h1, Ev.step (fun k => by simp only [spec_PureEquilibria.l1]; rw [if_neg (by omega), up]) h2, Ev.step (fun k => by simp only [impl_PureEquilibria.l1]; rw [if_neg (by omega), up]) h3⟩
  | succ d ih =>
    intro j out hj ho
    have hjn : j < n := by omega
    have upj : wrap64 ((j : Int) + 1) = ((j + 1 : Nat) : Int) := upI (by omega)
    have h9 := ho.1
    have hn1 : ∀ k : Nat, impl_Game_n.f a b = some (n : Int) := fun _ => by unfold impl_Game_n.f; rw [if_pos (by omega), hhd]
    have hm2 : impl_Game_m.f a b = some (m : Int) := by unfold impl_Game_m.f; rw [hl]
    have e1 : withinP (rowR a (sureP n j)) (sureP m i) 0 = decide ((i : Int) ∈ rowR a (sureP n j)) := by
      have := within_sure (rowR a (sureP n j)) m i 0 hi
      rwa [Nat.zero_add] at this
    have e2 : withinP (colR b n (sureP m i)) (sureP n j) 0 = decide ((j : Int) ∈ colR b n (sureP m i)) := by
      have := within_sure (colR b n (sureP m i)) n j 0 hjn
      rwa [Nat.zero_add] at this
    have hE := evEqualS g (sureP_bd m i) (sureP_bd n j) (sureP_length m i) (sureP_length n j)
    have hR := evRowI g (sureP_bd n j) (sureP_length n j)
    have hC := evColI g (sureP_bd m i) (sureP_length m i)
    have hr3 := rowR_len g (sureP n j)
    have hc3 := colR_len g (sureP m i)
    have hRi := implHas (rowR a (sureP n j)) (i : Int) (by omega)
    have hCj := implHas (colR b n (sureP m i)) (j : Int) (by omega)
    unfold equil at hE
    rw [hhd, e1, e2] at hE
    have specGo : ∀ (f : Nat → Option (List (List Int) × Bool)) (r : List (List Int) × Bool), Ev f r → (∀ k, (if (decide ((i : Int) ∈ rowR a (sureP n j)) && decide ((j : Int) ∈ colR b n (sureP m i))) = true then (if out.length < 5864062014805 then (spec_PureEquilibria.l1 k (out ++ [[(i : Int), (j : Int)]]) i m i n (wrap64 ((j : Int) + 1)) a b) else none) else (spec_PureEquilibria.l1 k out i m i n (wrap64 ((j : Int) + 1)) a b)) = f k) → Ev (fun k => spec_PureEquilibria.l1 k out (i : Int) (m : Int) (i : Int) (n : Int) (j : Int) a b) r := by
      intro f r hf hq
      refine Ev.step (fun k => by
        simp only [spec_PureEquilibria.l1]
        rw [if_pos (by omega), hl, specPure m i hi (by omega), Option.bind_some, if_pos (by omega), hhd, specPure n j hjn (by omega), Option.bind_some]) (Ev.bind hE ?_)
      exact Ev.congr hq hf
    cases c1 : decide ((i : Int) ∈ rowR a (sureP n j)) with
    | false =>
      obtain ⟨r, h1, h2, h3⟩ := ih (j + 1) out (by omega) ⟨by omega, ho.2⟩
      rw [c1] at hRi
      refine ⟨r, h1, specGo _ _ h2 (fun k => by rw [c1, Bool.false_and, if_neg (by decide), upj]), ?_⟩
      refine Ev.step (fun k => by
        simp only [impl_PureEquilibria.l1]
        rw [if_pos (by omega), hn1 k, Option.bind_some, implSure n j hjn (by omega), Option.bind_some]) (Ev.bind hR (Ev.bind hRi ?_))
      exact Ev.congr (fun k => by rw [if_neg (by decide), upj]) h3
    | true =>
      rw [c1] at hRi
      cases c2 : decide ((j : Int) ∈ colR b n (sureP m i)) with
      | false =>
        obtain ⟨r, h1, h2, h3⟩ := ih (j + 1) out (by omega) ⟨by omega, ho.2⟩
        rw [c2] at hCj
        refine ⟨r, h1, specGo _ _ h2 (fun k => by rw [c1, c2, if_neg (by decide), upj]), ?_⟩
        refine Ev.step (fun k => by
          simp only [impl_PureEquilibria.l1]
          rw [if_pos (by omega), hn1 k, Option.bind_some, implSure n j hjn (by omega), Option.bind_some]) (Ev.bind hR (Ev.bind hRi ?_))
        refine Ev.congr (fun k => by rw [if_pos rfl, hm2, Option.bind_some, implSure m i hi (by omega), Option.bind_some]) (Ev.bind hC (Ev.bind hCj ?_))
        exact Ev.congr (fun k => by rw [if_neg (by decide), upj]) h3
      | true =>
        obtain ⟨r, h1, h2, h3⟩ := ih (j + 1) (out ++ [[(i : Int), (j : Int)]]) (by omega) (few_snoc ho _ _)
        rw [c2] at hCj
        refine ⟨r, h1, specGo _ _ h2 (fun k => by rw [c1, c2, if_pos (show (true && true) = true from rfl), if_pos (by omega), upj]), ?_⟩
        refine Ev.step (fun k => by
          simp only [impl_PureEquilibria.l1]
          rw [if_pos (by omega), hn1 k, Option.bind_some, implSure n j hjn (by omega), Option.bind_some]) (Ev.bind hR (Ev.bind hRi ?_))
        refine Ev.congr (fun k => by rw [if_pos rfl, hm2, Option.bind_some, implSure m i hi (by omega), Option.bind_some]) (Ev.bind hC (Ev.bind hCj ?_))
        exact Ev.congr (fun k => by rw [if_pos rfl, if_pos (by omega), upj]) h3
theorem pure_l0 (g : IsG a b m n) (d : Nat) : ∀ (i : Nat) (out : List (List Int)), i + d = m → Few out (3 * i) → ∃ r, Few r 9 ∧ Ev (fun k => spec_PureEquilibria.l0 k out (m : Int) (i : Int) a b) (r, true) ∧ Ev (fun k => impl_PureEquilibria.l0 k out (m : Int) (i : Int) a b) (r, true) := by
  have hm := g.m3; have hm1 := g.m1; have hl := g.one.len; have hhd := g.head
  induction d with
  | zero =>
    intro i out hi ho
    exact ⟨out, ⟨by have := ho.1; omega, ho.2⟩, Ev.step (fun k => by simp only [spec_PureEquilibria.l0]; rw [if_neg (by omega)]) (Ev.now _), Ev.step (fun k => by simp only [impl_PureEquilibria.l0]; rw [if_neg (by omega)]) (Ev.now _)⟩
  | succ d ih =>
    intro i out hi ho
    obtain ⟨r, h1, h2, h3⟩ := pure_l1 g i (by omega) (fun out ho => ih (i + 1) out (by omega) ho) n 0 out (by omega) ho
    have hn1 : impl_Game_n.f a b = some (n : Int) := by unfold impl_Game_n.f; rw [if_pos (by omega), hhd]
    exact ⟨r, h1, Ev.step (fun k => by simp only [spec_PureEquilibria.l0]; rw [if_pos (by omega), if_pos (by omega), hhd]; rfl) h2, Ev.step (fun k => by simp only [impl_PureEquilibria.l0]; rw [if_pos (by omega), hn1, Option.bind_some]; rfl) h3⟩
end
theorem pureEquilibria_same (a b : List (List Int)) (ha : Small a) (hb : Small b) : ∃ r t, Small r ∧ ∃ K, ∀ k, K ≤ k → spec_PureEquilibria.f k a b = some (r, t) ∧ impl_PureEquilibria.f k a b = some (r, t) := by
  have hs := evGameS a b ha hb
  cases e : game a b with
  | false =>
    rw [e] at hs
    exact ⟨[], false, ⟨by simp, by simp⟩, both (Ev.bind hs (Ev.now _)) (Ev.congr (fun k => by unfold impl_PureEquilibria.f; rw [impl_game, e]; rfl) (Ev.now _))⟩
  | true =>
    rw [e] at hs
    obtain ⟨r, h1, h2, h3⟩ := pure_l0 (gameOf e) a.length 0 [] (by omega) ⟨by simp, by simp⟩
    exact ⟨r, true, ⟨by have := h1.1; omega, fun x hx => by have := h1.2 x hx; omega⟩, both (Ev.bind hs (Ev.congr (fun k => by rw [if_pos rfl]; rfl) h2)) (Ev.congr (fun k => by unfold impl_PureEquilibria.f impl_Game_m.f; rw [impl_game, e, Option.bind_some, if_pos rfl, Option.bind_some]; rfl) h3)⟩
end Go.Proofs.Yteikfmoklpokhaa.Games

