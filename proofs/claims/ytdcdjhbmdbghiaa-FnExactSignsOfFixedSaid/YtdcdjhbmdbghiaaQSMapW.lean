/- A cell's fixed point: its weights and its sign. -/
import Derived.Test.YtdcdjhbmdbghiaaQSx0
import Derived.Test.YtdcdjhbmdbghiaaQSx3
import Derived.Test.YtdcdjhbmdbghiaaQSx4
import Derived.Test.YtdcdjhbmdbghiaaQSx5
import Derived.Test.YtdcdjhbmdbghiaaQSx1
import Derived.Test.YtdcdjhbmdbghiaaQSx2
import Derived.Test.YtdcdjhbmdbghiaaQSEqs
import Derived.Test.YtdcdjhbmdbghiaaQSMapA
import Derived.Test.YtdcdjhbmdbghiaaQSMapM
import Derived.Test.YtdcdjhbmdbghiaaQSMapR
namespace Go.Proofs.Ytdcdjhbmdbghiaa.Maps
open Go.RowKit Go.Proofs.Ytdcdjhbmdbghiaa.All Go.Proofs.Ytdcdjhbmdbghiaa.Eqs Go.Proofs.Ytdcdjhbmdbghiaa.L1 Go.Proofs.YtdcdjhbmdbghiaaW.PrintWords Go.Proofs.YtdcdjhbmdbghiaaW.PrintLast Go.Proofs.YtdcdjhbmdbghiaaW.PrintMore
/-! #### divisors -/
theorem gcdI_l0 : ∀ (b a k : Nat), b < k → impl_gcd.l0 k (a : Int) (b : Int) = some ((Nat.gcd a b : Nat) : Int) := by
  intro b
  induction b using Nat.strongRecOn with
  | ind b ih =>
    intro a k hk
    obtain ⟨k, rfl⟩ : ∃ m, k = m + 1 := ⟨k - 1, by omega⟩
    simp only [impl_gcd.l0]
    by_cases h : b = 0
    · subst h; simp
    · rw [if_neg (by omega), ← Int.ofNat_tmod, ih (a % b) (Nat.mod_lt _ (by omega)) b k (by have := Nat.mod_lt a (show b > 0 by omega); omega)]
      rw [Nat.gcd_comm a b, Nat.gcd_rec b a, Nat.gcd_comm]
theorem gcdI (a b : Nat) : Ev (fun k => impl_gcd.f k (a : Int) (b : Int)) ((Nat.gcd a b : Nat) : Int) := ⟨b + 1, fun k hk => gcdI_l0 b a k (by omega)⟩
theorem absI (x : Int) (h : x.natAbs ≤ 450) : mx x (wrap64 (-x)) = (x.natAbs : Int) := by
  rw [wrap_id (x := -x) (by omega) (by omega)]
  unfold mx
  split <;> omega
/-- The weights by their divisor. -/
def wts (x y z : Nat) : List Int :=
  let g : Int := ((Nat.gcd z (Nat.gcd y x) : Nat) : Int)
  [wrap64 (Int.tdiv (x : Int) g), wrap64 (Int.tdiv (y : Int) g), wrap64 (Int.tdiv (z : Int) g)]
theorem reducedI_l1 (g x y z : Int) (hg : mx g 1 = g) (h0 : g ≠ 0) (k : Nat) : impl_reduced.l1 (k + 4) g [] [x, y, z] 3 0 = some [wrap64 (Int.tdiv x g), wrap64 (Int.tdiv y g), wrap64 (Int.tdiv z g)] := by
  simp only [impl_reduced.l1]
  rw [hg]
  rw [if_pos (of_decide_eq_true rfl), if_pos (of_decide_eq_true rfl), if_pos (of_decide_eq_true rfl), if_neg h0, if_pos (of_decide_eq_true rfl), show wrap64 (0 + 1) = 1 by decide +kernel]
  rw [if_pos (of_decide_eq_true rfl), if_pos (of_decide_eq_true rfl), if_pos (of_decide_eq_true rfl), if_neg h0, if_pos (of_decide_eq_true rfl), show wrap64 (1 + 1) = 2 by decide +kernel]
  rw [if_pos (of_decide_eq_true rfl), if_pos (of_decide_eq_true rfl), if_pos (of_decide_eq_true rfl), if_neg h0, if_pos (of_decide_eq_true rfl), show wrap64 (2 + 1) = 3 by decide +kernel]
  rw [if_neg (of_decide_eq_false rfl)]
  rfl
theorem reducedI (x y z : Nat) (h0 : 0 < x) : Ev (fun k => impl_reduced.f k [(x : Int), (y : Int), (z : Int)]) (wts x y z) := by
  have hp : 0 < Nat.gcd z (Nat.gcd y x) := Nat.gcd_pos_of_pos_right _ (Nat.gcd_pos_of_pos_right _ h0)
  have g1 : Ev (fun k => impl_gcd.f k 0 (x : Int)) (x : Int) := by
    have q := gcdI 0 x
    rw [Nat.gcd_zero_left] at q
    exact q
  have g2 := gcdI x y
  have g3 := gcdI (Nat.gcd y x) z
  rw [Nat.gcd_comm x y] at g2
  rw [Nat.gcd_comm (Nat.gcd y x) z] at g3
  refine Ev.congr (fun k => by unfold impl_reduced.f; rfl) (Ev.step (fun k => by
    simp only [impl_reduced.l0]
    rw [if_pos (of_decide_eq_true rfl), if_pos (of_decide_eq_true rfl), if_pos (of_decide_eq_true rfl), show rd [(x : Int), (y : Int), (z : Int)] 0 = (x : Int) from rfl, show wrap64 (0 + 1) = 1 by decide +kernel]) (Ev.bind g1 ?_))
  refine Ev.step (fun k => by
    simp only [impl_reduced.l0]
    rw [if_pos (of_decide_eq_true rfl), if_pos (of_decide_eq_true rfl), if_pos (of_decide_eq_true rfl), show rd [(x : Int), (y : Int), (z : Int)] 1 = (y : Int) from rfl, show wrap64 (1 + 1) = 2 by decide +kernel]) (Ev.bind g2 ?_)
  refine Ev.step (fun k => by
    simp only [impl_reduced.l0]
    rw [if_pos (of_decide_eq_true rfl), if_pos (of_decide_eq_true rfl), if_pos (of_decide_eq_true rfl), show rd [(x : Int), (y : Int), (z : Int)] 2 = (z : Int) from rfl, show wrap64 (2 + 1) = 3 by decide +kernel]) (Ev.bind g3 ?_)
  refine Ev.step (fun k => by
    simp only [impl_reduced.l0]
    rw [if_neg (of_decide_eq_false rfl)]) (step4 (g := fun _ => some (wts x y z)) (fun k => ?_) (Ev.now _))
  exact reducedI_l1 _ _ _ _ (by unfold mx; split <;> omega) (by omega) k
theorem weightsI_l0 (x y z : Int) (hx : x.natAbs ≤ 450) (hy : y.natAbs ≤ 450) (hz : z.natAbs ≤ 450) (k : Nat) : impl_weightsIn.l0 (k + 4) [] [x, y, z] 3 0 = (impl_reduced.f k [(x.natAbs : Int), (y.natAbs : Int), (z.natAbs : Int)]).bind fun t => some t := by
  simp only [impl_weightsIn.l0]
  rw [if_pos (of_decide_eq_true rfl), if_pos (of_decide_eq_true rfl), if_pos (of_decide_eq_true rfl), if_pos (of_decide_eq_true rfl), show rd [x, y, z] 0 = x from rfl, absI x hx, show wrap64 (0 + 1) = 1 by decide +kernel]
  rw [if_pos (of_decide_eq_true rfl), if_pos (of_decide_eq_true rfl), if_pos (of_decide_eq_true rfl), if_pos (of_decide_eq_true rfl), show rd [x, y, z] 1 = y from rfl, absI y hy, show wrap64 (1 + 1) = 2 by decide +kernel]
  rw [if_pos (of_decide_eq_true rfl), if_pos (of_decide_eq_true rfl), if_pos (of_decide_eq_true rfl), if_pos (of_decide_eq_true rfl), show rd [x, y, z] 2 = z from rfl, absI z hz, show wrap64 (2 + 1) = 3 by decide +kernel]
  rw [if_neg (of_decide_eq_false rfl)]
  rfl
/-! #### a cell -/
/-- What a cell has: 1 and -1 where it has a fixed point, 2 where it has none, 0 where it is not regular. -/
def cellSide (ps : List S73) (ls : List (List Int)) (cell : List Int) : Int := sideP (rd (cellAreas ps ls cell) 0) (rd (cellAreas ps ls cell) 1) (rd (cellAreas ps ls cell) 2)
/-- The weights of a cell's fixed point, none if it has none. -/
def cellWeights (ps : List S73) (ls : List (List Int)) (cell : List Int) : List Int :=
  if cellSide ps ls cell = 1 ∨ cellSide ps ls cell = -1 then wts (rd (cellAreas ps ls cell) 0).natAbs (rd (cellAreas ps ls cell) 1).natAbs (rd (cellAreas ps ls cell) 2).natAbs else []
theorem wts_ne (x y z : Nat) : wts x y z ≠ [] := by unfold wts; simp
theorem cellWeights_nil (ps : List S73) (ls : List (List Int)) (cell : List Int) : cellWeights ps ls cell = [] ↔ ¬ (cellSide ps ls cell = 1 ∨ cellSide ps ls cell = -1) := by
  unfold cellWeights
  split
  · rename_i h
    exact ⟨fun e => absurd e (wts_ne _ _ _), fun e => absurd h e⟩
  · rename_i h
    exact ⟨fun _ => h, fun _ => rfl⟩
/-- A cell's numbers told by both. -/
structure CellOf (n : Int) (ls : List (List Int)) (ps : List S73) (cell : List Int) : Prop where
  inS : ∃ v, Ev (fun k => spec_fxIn.f k n ls cell) v ∧ ((cellSide ps ls cell = 1 ∧ v = 1) ∨ (cellSide ps ls cell = -1 ∧ v = -1) ∨ (cellSide ps ls cell = 2 ∧ v = 0) ∨ (cellSide ps ls cell = 0 ∧ v = 2))
  areas : ∃ a, Ev (fun k => impl_areas.f k n ls cell) a ∧ Ev (fun k => impl_side.f k a) (cellSide ps ls cell)
  wI : Ev (fun k => impl_weightsIn.f k n ls cell) (cellWeights ps ls cell)
theorem MapOf.cell {n : Int} {ls : List (List Int)} {ps} (h : MapOf n ls ps) (cell : List Int) (hcl : cell.length = 3) (hcell : ∀ v ∈ cell, 0 ≤ v ∧ v < cnt n) : CellOf n ls ps cell := by
  obtain ⟨a1, a2, x, y, z, e, hx, hy, hz⟩ := h.areas cell hcl hcell
  have hs : cellSide ps ls cell = sideP x y z := by unfold cellSide; rw [e]; rfl
  have hw : cellWeights ps ls cell = if sideP x y z = 1 ∨ sideP x y z = -1 then wts x.natAbs y.natAbs z.natAbs else [] := by unfold cellWeights; rw [hs, e]; rfl
  rw [e] at a1 a2
  have hI : Ev (fun k => spec_fxIn.f k n ls cell) (hasP x y z) := Ev.congr (fun k => by unfold spec_fxIn.f; rfl) (Ev.bind a1 (Ev.bind (has_is x y z) (Ev.now _)))
  have hsd := side_is x y z
  have tri := side_has x y z
  have hf : ∀ k, impl_weightsIn.f k n ls cell = (impl_areas.f k n ls cell).bind fun t => (impl_side.f k t).bind fun s => if s = 1 then impl_weightsIn.j0 k t false else impl_weightsIn.j0 k t (s != (-1)) := fun k => by unfold impl_weightsIn.f; rfl
  have good : ∀ b, b = false → x ≠ 0 → Ev (fun k => impl_weightsIn.j0 k [x, y, z] b) (wts x.natAbs y.natAbs z.natAbs) := by
    rintro b rfl h0
    refine Ev.step (fun k => by simp only [impl_weightsIn.j0]; rw [if_neg (by decide)]) (step4 (g := fun k => (impl_reduced.f k [(x.natAbs : Int), (y.natAbs : Int), (z.natAbs : Int)]).bind fun t => some t) (fun k => weightsI_l0 x y z hx hy hz k) (Ev.bind (reducedI _ _ _ (by omega)) (Ev.now _)))
  have bad : ∀ b, b = true → Ev (fun k => impl_weightsIn.j0 k [x, y, z] b) ([] : List Int) := by
    rintro b rfl
    exact Ev.step (fun k => by simp only [impl_weightsIn.j0]; rw [if_pos trivial]) (Ev.now _)
  constructor
  · refine ⟨_, hI, ?_⟩
    rw [hs]
    rcases tri with ⟨s1, s2, -⟩ | ⟨s1, s2, -⟩ | ⟨s1, s2⟩ | ⟨s1, s2⟩
    · exact Or.inl ⟨s1, s2⟩
    · exact Or.inr (Or.inl ⟨s1, s2⟩)
    · exact Or.inr (Or.inr (Or.inl ⟨s1, s2⟩))
    · exact Or.inr (Or.inr (Or.inr ⟨s1, s2⟩))
  · rw [hs]; exact ⟨_, a2, hsd⟩
  · rw [hw]
    rcases tri with ⟨s1, -, x0, -⟩ | ⟨s1, -, x0, -⟩ | ⟨s1, -⟩ | ⟨s1, -⟩
    · rw [s1] at hsd ⊢
      rw [if_pos (Or.inl rfl)]
      exact Ev.congr hf (Ev.bind a2 (Ev.bind hsd (Ev.congr (fun k => by rw [if_pos rfl]) (good _ rfl (by omega)))))
    · rw [s1] at hsd ⊢
      rw [if_pos (Or.inr rfl)]
      exact Ev.congr hf (Ev.bind a2 (Ev.bind hsd (Ev.congr (fun k => by rw [if_neg (by decide)]) (good _ (by decide) (by omega)))))
    · rw [s1] at hsd ⊢
      rw [if_neg (by omega)]
      exact Ev.congr hf (Ev.bind a2 (Ev.bind hsd (Ev.congr (fun k => by rw [if_neg (by decide)]) (bad _ (by decide)))))
    · rw [s1] at hsd ⊢
      rw [if_neg (by omega)]
      exact Ev.congr hf (Ev.bind a2 (Ev.bind hsd (Ev.congr (fun k => by rw [if_neg (by decide)]) (bad _ (by decide)))))
/-! #### signs -/
def upCheck (n : Int) : Bool := match impl_cells.f 2000 n with
  | some cs => cs.all fun c => match impl_isUp.f 200 n c with
    | some b => spec_meUp.f 200 n c == some b
    | none => false
  | none => false
set_option maxRecDepth 100000 in
theorem upAll : ∀ i : Fin 5, upCheck ((i.val : Int) + 1) = true := by decide +kernel

/-- The sign of a cell's fixed point. -/
def cellSign (ps : List S73) (ls : List (List Int)) (cell : List Int) (up : Bool) : Int := if (cellSide ps ls cell == 1) == up then 1 else -1
theorem sign_same {n : Int} {ls : List (List Int)} {ps} {cell : List Int} (hc : CellOf n ls ps cell) {up : Bool} (u1 : Ev (fun k => impl_isUp.f k n cell) up) (u2 : Ev (fun k => spec_meUp.f k n cell) up) (hsd : cellSide ps ls cell = 1 ∨ cellSide ps ls cell = -1) : Ev (fun k => spec_fxSign.f k n ls cell) (cellSign ps ls cell up) ∧ Ev (fun k => impl_signIn.f k n ls cell) (cellSign ps ls cell up) := by
  obtain ⟨v, v1, v2⟩ := hc.inS
  obtain ⟨a, a1, a2⟩ := hc.areas
  have hv : v = cellSide ps ls cell := by rcases v2 with ⟨s, r⟩ | ⟨s, r⟩ | ⟨s, r⟩ | ⟨s, r⟩ <;> omega
  subst hv
  refine ⟨Ev.congr (fun k => by unfold spec_fxSign.f; rfl) (Ev.bind v1 (Ev.bind u2 ?_)), Ev.congr (fun k => by unfold impl_signIn.f; rfl) (Ev.bind a1 (Ev.bind a2 (Ev.bind u1 ?_)))⟩
  · unfold cellSign
    rcases hsd with s | s <;> rw [s] <;> cases up
    · exact Ev.congr (fun k => by rw [if_neg (by decide), show wrap64 (-1) = -1 by decide +kernel]; rfl) (Ev.now _)
    · exact Ev.now _
    · exact Ev.congr (fun k => by rw [if_neg (by decide), show wrap64 (- -1) = 1 by decide +kernel]; rfl) (Ev.now _)
    · exact Ev.now _
  · unfold cellSign
    rcases hsd with s | s <;> rw [s] <;> cases up <;> exact Ev.now _
/-! #### regular images, told -/
theorem MapOf.reg_l0 {n : Int} {ls : List (List Int)} {ps} (h : MapOf n ls ps) (cs : List (List Int)) (h25 : cs.length ≤ 25) (hc : ∀ c ∈ cs, c.length = 3 ∧ ∀ v ∈ c, 0 ≤ v ∧ v < cnt n) (d : Nat) : ∀ (i : Nat), i + d = cs.length → Ev (fun k => spec_fxRegular.l0 k n ls cs (cs.length : Int) i) ((cs.drop i).all fun c => !(cellSide ps ls c == 0)) ∧ Ev (fun k => sideAll k n ls (cs.drop i)) ((cs.drop i).all fun c => !(cellSide ps ls c == 0)) := by
  induction d with
  | zero =>
    intro i hi
    rw [List.drop_of_length_le (by omega)]
    exact ⟨Ev.step (fun k => by simp only [spec_fxRegular.l0]; rw [if_neg (by omega)]) (Ev.now true), Ev.now _⟩
  | succ d ih =>
    intro i hi
    have hlt : i < cs.length := by omega
    have hcc := hc _ (List.getElem_mem hlt)
    have hce := h.cell cs[i] hcc.1 hcc.2
    obtain ⟨v, v1, v2⟩ := hce.inS
    obtain ⟨a, a1, a2⟩ := hce.areas
    obtain ⟨g1, g2⟩ := ih (i + 1) (by omega)
    rw [List.drop_eq_getElem_cons hlt, List.all_cons]
    have e1 : ∀ k, spec_fxRegular.l0 (k + 1) n ls cs (cs.length : Int) i = (spec_fxIn.f k n ls cs[i]).bind fun t => if t = 2 then some false else spec_fxRegular.l0 k n ls cs (cs.length : Int) (wrap64 ((i : Int) + 1)) := fun k => by
      simp only [spec_fxRegular.l0]
      rw [if_pos (by omega), if_pos (by omega), if_pos (by omega), rdl_getElem hlt]
    refine ⟨Ev.step e1 (Ev.bind v1 ?_), Ev.bind a1 (Ev.bind a2 (Ev.bind g2 (Ev.now _)))⟩
    rcases v2 with ⟨s, rfl⟩ | ⟨s, rfl⟩ | ⟨s, rfl⟩ | ⟨s, rfl⟩
    · rw [s]; exact Ev.congr (fun k => by rw [if_neg (by decide), upI (by omega)]) g1
    · rw [s]; exact Ev.congr (fun k => by rw [if_neg (by decide), upI (by omega)]) g1
    · rw [s]; exact Ev.congr (fun k => by rw [if_neg (by decide), upI (by omega)]) g1
    · rw [s]; exact Ev.congr (fun k => by rw [if_pos rfl]; rfl) (Ev.now _)
theorem MapOf.regular {n : Int} {ls : List (List Int)} {ps} (h : MapOf n ls ps) (cs : List (List Int)) (c1 : Ev (fun k => impl_cells.f k n) cs) (c2 : Ev (fun k => spec_meCells.f k n) cs) (c4 : cs.length ≤ 25) (c5 : ∀ c ∈ cs, c.length = 3 ∧ ∀ v ∈ c, 0 ≤ v ∧ v < cnt n) : Ev (fun k => spec_fxRegular.f k n ls) (cs.all fun c => !(cellSide ps ls c == 0)) ∧ Ev (fun k => impl_isRegular.f k n ls) (cs.all fun c => !(cellSide ps ls c == 0)) := by
  obtain ⟨b1, b2⟩ := h.reg_l0 cs c4 c5 cs.length 0 (by omega)
  rw [List.drop_zero] at b1 b2
  exact ⟨Ev.congr (fun k => by unfold spec_fxRegular.f; rfl) (Ev.bind c2 b1), Ev.congr (fun k => by unfold impl_isRegular.f; rfl) (Ev.bind c1 b2)⟩
end Go.Proofs.Ytdcdjhbmdbghiaa.Maps

